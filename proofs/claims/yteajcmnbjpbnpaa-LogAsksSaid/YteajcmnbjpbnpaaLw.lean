/- Walks of functions over a symbolic memory, printed by a program of the session. -/
import Derived.Test.YteajcmnbjpbnpaaLo
namespace Go.Proofs.Yteajcmnbjpbnpaa
open Go.Sy
set_option linter.unusedSimpArgs false
set_option linter.unusedVariables false

def isM (i : Int) (e : Ent) : Bool := decide (e.kind = 3) && decide (e.index ≤ i)
def memTo (l : List Ent) (i : Int) (b : List Int) (k : Nat) : List Int := (l.take k).foldl (fun o e => if isM i e = true then e.members else o) b
theorem memTo_succ {l : List Ent} {i : Int} {b : List Int} {k : Nat} (hk : k < l.length) : memTo l i b (k + 1) = if isM i l[k] = true then l[k].members else memTo l i b k := by
  unfold memTo
  rw [List.take_succ_eq_append_getElem hk, List.foldl_append]; rfl
theorem memTo_yes {l : List Ent} {i : Int} {b : List Int} {k : Nat} (hk : k < l.length) (h1 : l[k].kind = 3) (h2 : l[k].index ≤ i) : memTo l i b (k + 1) = l[k].members := by
  rw [memTo_succ hk, if_pos (by unfold isM; rw [decide_eq_true h1, decide_eq_true h2]; rfl)]
theorem memTo_no {l : List Ent} {i : Int} {b : List Int} {k : Nat} (hk : k < l.length) (h : ¬l[k].kind = 3 ∨ ¬l[k].index ≤ i) : memTo l i b (k + 1) = memTo l i b k := by
  rw [memTo_succ hk, if_neg]
  unfold isM
  rw [Bool.and_eq_true, decide_eq_true_eq, decide_eq_true_eq]
  rintro ⟨h1, h2⟩
  rcases h with h | h <;> contradiction
theorem memTo_le {l : List Ent} {i : Int} {b : List Int} {q : Nat} (hM : ∀ e ∈ l, e.members.length * 8 ≤ q) (hB : b.length * 8 ≤ q) : ∀ k, k ≤ l.length → (memTo l i b k).length * 8 ≤ q
  | 0, _ => hB
  | k + 1, hk => by
    rw [memTo_succ (by omega)]
    split
    · exact hM _ (List.getElem_mem _)
    · exact memTo_le hM hB k (by omega)
/-- None behind k, and what stands at k. -/
theorem memTo_skip {l : List Ent} {i : Int} {b : List Int} {k : Nat} (hk : k ≤ l.length) (h : ∀ j (hj : j < l.length), k ≤ j → isM i l[j] = false) : memTo l i b l.length = memTo l i b k := by
  obtain ⟨d, hd⟩ : ∃ d, l.length = k + d := ⟨l.length - k, by omega⟩
  have key : ∀ d, k + d ≤ l.length → memTo l i b (k + d) = memTo l i b k := by
    intro d
    induction d with
    | zero => intro _; rfl
    | succ d ih =>
      intro hd
      rw [← Nat.add_assoc, memTo_succ (by omega), h (k + d) (by omega) (by omega)]
      exact ih (by omega)
  rw [hd]; exact key d (by omega)
def memR (l : Lg) (i : Int) (b : List Int) : List Int × Int := if logOk l = false then ([], 10) else (memTo l.ents i b l.ents.length, 0)
theorem memR_no {l : Lg} {i w : Int} {b : List Int} (h : ¬logWhy l = 0) (hw : w = 10) : memR l i b = ([], w) := by subst hw; unfold memR; rw [(logNo_why h).1]; rfl
theorem memR_yes {l : Lg} {i : Int} {b : List Int} (h : logWhy l = 0) : memR l i b = (memTo l.ents i b l.ents.length, 0) := by
  unfold memR logOk; rw [logOk_why h]; rfl

set_option maxHeartbeats 1000000 in
set_option maxRecDepth 20000 in
theorem rMem_ok {I : Imm} {O : Own} {lc : List Value} {l : Lg} (hl : LgR I lc l) {i : Int} {v : Value} {b : List Int} (hb : IntsR I v b) (hB : b.length * 8 ≤ 140737488351232) (hM : ∀ e ∈ l.ents, e.members.length * 8 ≤ 140737488351232) :
    Go.Sy.Does Try.prog 28 [.agg ⟨lc⟩, .int .u64 i, v] I O (fun u I' O' => ∃ v ws ob, u = .tuple ⟨[v, .int .i64 (memR l i b).2]⟩ ∧ OwnS 1 v (memR l i b).1.length ws ob ∧ DR I64R 1 I' ws (memR l i b).1 ∧ O' = ob ++ O) := by
  have hl0 := hl
  obtain ⟨ev, rfl, hev⟩ := hl.ex
  have hev0 := hev
  obtain ⟨va, vcap, rfl, hv1, hv2, -⟩ := hev
  have hbase := hl0.base
  have hterm := hl0.term
  unfold U64 at hbase hterm
  have hb0 := hb
  obtain ⟨ba, bcap, rfl, hb1, hb2, -⟩ := hb
  refine Go.Sy.Does.enter Try.func28 rfl Try.ntmps28 rfl ?_
  refine .seq <| .region <| .on rfl <| .box rfl rfl rfl fun c1 _ _ => .e (.assign rfl) rfl rfl <| .e (.assign rfl) rfl rfl <| .nil ?_
  refine .go <| .seq <| .seq <| .region <| .e (.loadW ag25 sz25 rfl .here rfl) rfl rfl <| .on rfl <| .callP cal30 rfl rfl rfl (rlCheck_ok hl0) ?_
  refine .e (.neq rfl rfl) rfl rfl <| .nil <| .go ?_
  refine .split 13 rfl (fun h13 => ?_) (fun h13 => ?_)
  · skip
    first | replace h13 := of_decide_eq_false ((Bool.not_eq_true' _).mp h13) | replace h13 := of_decide_eq_false (by simpa using h13)
    refine .cond_true rfl <| .seq <| .region <| .e (.assign rfl) rfl rfl <| .e (.assign rfl) rfl rfl <| .nil ?_
    refine .go <| .ret <| .ret ?_
    refine Post.rets rfl (.tmp rfl (.tmp rfl .nil)) rfl (Imm.le_refl _) (fun w h => (Sat.tail h)) ?_
    rw [memR_no h13 rfl]
    exact ⟨_, [], [], rfl, OwnS.nil, DR.nil, rfl⟩
  · skip
    first | replace h13 := of_decide_eq_true ((Bool.not_eq_false' _).mp h13) | replace h13 := of_decide_eq_true (by simpa using h13)
    refine .cond_false rfl <| .skip <| .go <| .seq <| .region <| .e (.move rfl) rfl rfl ?_
    refine .e (.assign rfl) rfl rfl <| .nil <| .go <| .seq <| .seq <| .region ?_
    refine .e (.fieldAddr fo25_2 rfl) rfl rfl <| .e (.load ag23 rfl .here rfl) rfl rfl <| .e (.len sl23 rfl rfl) rfl rfl <| .e (.move rfl) rfl rfl <| .nil <| .go ?_
    refine .block ?_
    refine .loopM [8, 10, 18, 19, 20, 21, 22, 23, 24, 25, 26, 27, 28, 29, 30, 31, 32, 33] (fun s => l.ents.length - s.1) (fun s => s.1 ≤ l.ents.length ∧ IntsR I s.2 (memTo l.ents i b s.1)) (fun s => [(18, .int .i64 s.1), (8, s.2)]) (fun _ => _) (fun _ => _) (((0, .slice ba b.length bcap) : Nat × Value)) ⟨Nat.zero_le _, hb0⟩ ⟨rfl, rfl, trivial⟩ rfl rfl ?_
    intro ⟨k, vk⟩ hk
    dsimp only at hk ⊢
    obtain ⟨hk, hv⟩ := hk
    have hv0 := hv
    obtain ⟨xa, xc, rfl, hvl1, hvl2, -⟩ := hv
    refine .seq <| .region <| .e (.lss rfl rfl) rfl rfl <| .nil <| .go <| .seq ?_
    refine .split 19 rfl (fun h19 => ?_) (fun h19 => ?_)
    · skip
      replace h19 := of_decide_eq_true h19
      refine .cond_true rfl <| .skip <| .go <| .seq <| .block <| .seq ?_
      refine .region ?_
      obtain ⟨eb20, eo20, cs20, hd20, hat20, hr20⟩ := SlR.at_ hev0 (k := k) (by omega)
      cases hd20
      have he20 := hr20
      obtain ⟨mv20, rfl, hmv20⟩ := hr20.ex
      have hmk := hmv20
      obtain ⟨ma20, mc20, rfl, -⟩ := hmv20
      refine .e (.indexAddrL sl23 rfl rfl rfl (by omega)) rfl rfl <| .e (.loadIA ag41 sz41 rfl hat20 rfl) rfl rfl <| .on rfl <| .alloc zr41 rfl fun c2 _ _ => .on rfl <| .storeW sz41 rfl rfl rfl rfl rfl rfl .here <| .nil <| .go ?_
      refine .seq <| .region <| .e (.fieldAddr fo41_2 rfl) rfl rfl <| .e (.load ag38 rfl .here rfl) rfl rfl <| .e (.eql rfl rfl) rfl rfl <| .e (.move rfl) rfl rfl ?_
      refine .split 25 rfl (fun h25 => ?_) (fun h25 => ?_)
      · skip
        replace h25 := of_decide_eq_true h25
        refine .e (.fieldAddr fo41_0 rfl) rfl rfl <| .e (.load ag22 rfl .here rfl) rfl rfl <| .e (.move rfl) rfl rfl <| .e (.leq rfl rfl) rfl rfl <| .e (.pickT rfl rfl) rfl rfl <| .nil ?_
        refine .go ?_
        refine .split 30 rfl (fun h30 => ?_) (fun h30 => ?_)
        · skip
          replace h30 := of_decide_eq_true h30
          refine .cond_true rfl <| .region <| .e (.fieldAddr fo41_4 rfl) rfl rfl <| .e (.load ag39 rfl .here rfl) rfl rfl <| .e (.assign rfl) rfl rfl <| .nil ?_
          refine .blk_normal <| .go <| .region <| .e (.add rfl rfl (by first | exact wrap_succ (by omega) | exact IntWalk.i64_in _ (by omega) | exact rfl)) rfl rfl <| .e (.move rfl) rfl rfl <| .nil ?_
          refine .tail ?_
          exact .mid ((k + 1, _)) ⟨by dsimp only; omega, by dsimp only; omega, by dsimp only; rw [memTo_yes (by omega) h25 h30]; exact hmk⟩ ⟨rfl, rfl, trivial⟩ rfl rfl (.pre 21 rfl (.app rfl .base))
        · skip
          replace h30 := of_decide_eq_false h30
          refine .cond_false rfl <| .skip <| .blk_normal <| .go <| .region <| .e (.add rfl rfl (by first | exact wrap_succ (by omega) | exact IntWalk.i64_in _ (by omega) | exact rfl)) rfl rfl ?_
          refine .e (.move rfl) rfl rfl <| .nil ?_
          refine .tail ?_
          exact .mid ((k + 1, _)) ⟨by dsimp only; omega, by dsimp only; omega, by dsimp only; rw [memTo_no (by omega) (.inr h30)]; exact hv0⟩ ⟨rfl, rfl, trivial⟩ rfl rfl (.pre 18 rfl (.app rfl .base))
      · skip
        replace h25 := of_decide_eq_false h25
        refine .off rfl rfl <| .off rfl rfl <| .off rfl rfl <| .off rfl rfl <| .e (.pickF rfl rfl) rfl rfl <| .nil ?_
        refine .go <| .cond_false rfl <| .skip <| .blk_normal <| .go <| .region ?_
        refine .e (.add rfl rfl (by first | exact wrap_succ (by omega) | exact IntWalk.i64_in _ (by omega) | exact rfl)) rfl rfl <| .e (.move rfl) rfl rfl <| .nil ?_
        refine .tail ?_
        exact .mid ((k + 1, _)) ⟨by dsimp only; omega, by dsimp only; omega, by dsimp only; rw [memTo_no (by omega) (.inl h25)]; exact hv0⟩ ⟨rfl, rfl, trivial⟩ rfl rfl (.pre 17 rfl (.app rfl .base))
    · skip
      replace h19 := of_decide_eq_false h19
      refine .cond_false rfl <| .exit <| .exit <| .exit <| .blk_exit <| .go ?_
      refine .seq <| .region ?_
      have ek : k = l.ents.length := by omega
      subst ek
      obtain ⟨wsm, hsm, hdm⟩ := SlR.src (B := []) (fun _ _ h => by rw [h.1]; rfl) hv0
      have hml := memTo_le (i := i) hM hB l.ents.length (Nat.le_refl _)
      refine .on rfl <| .buildSlice Try.underlying39 sz3 (by decide) (by decide) zv3 rfl rfl rfl rfl rfl fun c3 _ _ => .e (.move rfl) rfl rfl <| .on rfl <| .append Try.underlying39 Try.underlying39 sz3 by3 zv3 rfl rfl rfl .here (OwnS.made rfl (by decide)) hsm.any hdm.1 (hdm.ones (by decide) (fun _ _ h => by rw [h.1]; rfl)) (by omega) (by omega) rfl fun v36 ob36 ho36 => .e (.assign rfl) rfl rfl <| .e (.assign rfl) rfl rfl <| .nil ?_
      refine .go <| .ret ?_
      rw [Nat.zero_add] at ho36
      refine Post.rets rfl (.tmp rfl (.tmp rfl .nil)) rfl (Imm.le_refl _) (fun w h => (Sat.tail (Sat.rem h (Rem.app <| Rem.here)))) ?_
      rw [memR_yes h13]
      exact ⟨_, wsm, ob36, rfl, ho36, hdm, rfl⟩

end Go.Proofs.Yteajcmnbjpbnpaa
