/- Walks of functions over a symbolic memory, printed by a program of the session. -/
import Derived.Test.YteajcmnbjpbnpaaLj
namespace Go.Proofs.Yteajcmnbjpbnpaa
open Go.Sy
set_option linter.unusedSimpArgs false
set_option linter.unusedVariables false

def zLg : Lg := ⟨0, 0, []⟩
theorem zLgR {I : Imm} : LgR I [.int .u64 0, .int .u64 0, .slice none 0 0] zLg := ⟨⟨_, rfl, SlR.nil⟩, by unfold U64 zLg; decide, by unfold U64 zLg; decide⟩
def trimR (l : Lg) (q : Int) : Lg × Int := if logOk l = false then (zLg, 10) else if endOf l < q then (zLg, 6) else if l.base < q then (⟨q, termAt l q, l.ents.drop (q - l.base).toNat⟩, 0) else (l, 0)
theorem trimR_no {l : Lg} {q w : Int} (h : ¬logWhy l = 0) (hw : w = 10) : trimR l q = (zLg, w) := by subst hw; unfold trimR; rw [(logNo_why h).1]; rfl
theorem trimR_far {l : Lg} {q : Int} (h : logOk l = true) (hq : endOf l < q) : trimR l q = (zLg, 6) := by unfold trimR; rw [h, if_neg (by simp), if_pos hq]
theorem trimR_cut {l : Lg} {q : Int} {j : Nat} (h : logOk l = true) (hq : ¬endOf l < q) (hb : l.base < q) (hj : q - l.base = (j : Int)) : trimR l q = (⟨q, termAt l q, l.ents.drop j⟩, 0) := by
  have : (q - l.base).toNat = j := by omega
  unfold trimR; rw [h, if_neg (by simp), if_neg hq, if_pos hb, this]
theorem trimR_all {l : Lg} {q : Int} (h : logOk l = true) (hq : ¬endOf l < q) (hb : ¬l.base < q) : trimR l q = (l, 0) := by unfold trimR; rw [h, if_neg (by simp), if_neg hq, if_neg hb]
theorem termAt_u64 {l : Lg} (h : U64 l.term) (hut : ∀ j (hj : j < l.ents.length), U64 l.ents[j].term) (i : Int) : U64 (termAt l i) := by
  unfold termAt
  split
  · exact h
  · by_cases hj : (i - l.base - 1).toNat < l.ents.length
    · rw [entD hj]; exact hut _ hj
    · have : l.ents.getD (i - l.base - 1).toNat ent0 = ent0 := by rw [List.getD_eq_getElem?_getD, List.getElem?_eq_none (by omega)]; rfl
      rw [this]; unfold U64 ent0; decide

set_option maxHeartbeats 1000000 in
set_option maxRecDepth 20000 in
theorem lTrim_ok {I : Imm} {O : Own} {lc : List Value} {l : Lg} (hl : LgR I lc l) {q : Int} (hq : U64 q) (hL : l.ents.length * 64 ≤ 140737488351232) (hM : ∀ e ∈ l.ents, e.members.length * 8 ≤ 140737488351232) :
    Go.Sy.Does Try.prog 13 [.agg ⟨lc⟩, .int .u64 q] I O (fun u I' O' => ∃ cs, u = .tuple ⟨[.agg ⟨cs⟩, .int .i64 (trimR l q).2]⟩ ∧ LgR I' cs (trimR l q).1 ∧ O' = O) := by
  have hl0 := hl
  obtain ⟨ev, rfl, hev⟩ := hl.ex
  have hev0 := hev
  obtain ⟨va, vcap, rfl, hv1, hv2, -⟩ := hev
  have hbase := hl0.base
  have hterm := hl0.term
  unfold U64 at hbase hterm
  have hu : ∀ j (hj : j < l.ents.length), U64 l.ents[j].index := fun j hj => by
    obtain ⟨_, _, _, _, _, hr⟩ := SlR.at_ hev0 hj
    exact hr.index
  have hut : ∀ j (hj : j < l.ents.length), U64 l.ents[j].term := fun j hj => by
    obtain ⟨_, _, _, _, _, hr⟩ := SlR.at_ hev0 hj
    exact hr.term
  have hq0 := hq
  unfold U64 at hq0
  refine Go.Sy.Does.enter Try.func13 rfl Try.ntmps13 rfl ?_
  refine .seq <| .region <| .on rfl <| .box rfl rfl rfl fun c1 _ _ => .on rfl <| .alloc zr25 rfl fun c2 _ _ => .e (.assign rfl) rfl rfl <| .nil ?_
  refine .go <| .seq <| .seq <| .region <| .e (.loadW ag25 sz25 rfl (.there <| .here) rfl) rfl rfl <| .on rfl <| .callP cal18 rfl rfl rfl (lCheck_ok hl0) ?_
  refine .e (.assign rfl) rfl rfl <| .nil <| .go <| .seq <| .region <| .e (.move rfl) rfl rfl ?_
  refine .e (.neq rfl rfl) rfl rfl <| .nil <| .go ?_
  refine .split 10 rfl (fun h10 => ?_) (fun h10 => ?_)
  · skip
    first | replace h10 := of_decide_eq_false ((Bool.not_eq_true' _).mp h10) | replace h10 := of_decide_eq_false (by simpa using h10)
    refine .cond_true rfl <| .seq <| .region <| .e (.build bs25 zv25 rfl rfl) rfl rfl <| .e (.move rfl) rfl rfl <| .on rfl <| .storeW sz25 rfl rfl rfl rfl rfl rfl .here ?_
    refine .e (.assign rfl) rfl rfl <| .nil <| .go <| .ret <| .ret ?_
    refine Post.rets rfl (.agg rfl ag25 sz25 .here rfl (.tmp rfl .nil)) rfl (Imm.le_refl _) (fun w h => (Sat.tail (Sat.tail h))) ?_
    rw [trimR_no h10 (logNo_why h10).2]
    exact ⟨_, rfl, zLgR, rfl⟩
  · skip
    first | replace h10 := of_decide_eq_true ((Bool.not_eq_false' _).mp h10) | replace h10 := of_decide_eq_true (by simpa using h10)
    have hok := logOk_why h10
    have hlok : logOk l = true := hok
    have hle := logTo_le hl0.base hu (Nat.le_refl _) hok
    have hae := at_end hl0.base (show endOf l ≤ 18446744073709551615 by unfold endOf; omega)
    have heo : endOf l = l.base + (l.ents.length : Int) := rfl
    refine .cond_false rfl <| .skip <| .go <| .seq <| .seq <| .region ?_
    refine .e (.move rfl) rfl rfl <| .e (.loadW ag25 sz25 rfl (.there <| .here) rfl) rfl rfl <| .on rfl <| .callP cal33 rfl rfl rfl (lend_ok hl0) <| .e (.gtr rfl rfl) rfl rfl <| .nil <| .go ?_
    refine .split 16 rfl (fun h16 => ?_) (fun h16 => ?_)
    · skip
      replace h16 := of_decide_eq_true h16
      refine .cond_true rfl <| .seq <| .region <| .e (.build bs25 zv25 rfl rfl) rfl rfl <| .on rfl <| .storeW sz25 rfl rfl rfl rfl rfl rfl .here <| .e (.assign rfl) rfl rfl ?_
      refine .nil <| .go <| .ret <| .ret ?_
      refine Post.rets rfl (.agg rfl ag25 sz25 .here rfl (.tmp rfl .nil)) rfl (Imm.le_refl _) (fun w h => (Sat.tail (Sat.tail h))) ?_
      rw [trimR_far hlok (by omega)]
      exact ⟨_, rfl, zLgR, rfl⟩
    · skip
      replace h16 := of_decide_eq_false h16
      refine .cond_false rfl <| .skip <| .go <| .seq <| .region <| .e (.loadW ag25 sz25 rfl (.there <| .here) rfl) rfl rfl ?_
      refine .on rfl <| .call cal32 rfl rfl rfl (Own_ok hl0 hL hM) fun v19 I19 O19 hI19 hK19 => ?_
      obtain ⟨ev19, ws19, ob19, rfl, ho19, hd19, rfl⟩ := hK19
      obtain ⟨ad19, cap19, rfl⟩ := ho19.form
      refine .freezeS ho19 fun K hK hKs => ?_
      have hek : EntsR K _ l.ents := hKs (R := EntR) (hd19.mono fun _ _ h => h.mono hK) rfl
      have hlk : LgR K (l.cells (.slice ad19 l.ents.length cap19)) l := ⟨⟨_, rfl, hek⟩, hl0.base, hl0.term⟩
      refine .on rfl <| .storeW sz25 rfl rfl rfl rfl rfl rfl (.there <| .here) <| .nil <| .go <| .seq <| .seq <| .region ?_
      refine .e (.move rfl) rfl rfl <| .e (.fieldAddr fo25_0 rfl) rfl rfl <| .e (.load ag22 rfl (.there <| .here) rfl) rfl rfl <| .e (.gtr rfl rfl) rfl rfl <| .nil <| .go ?_
      refine .split 23 rfl (fun h23 => ?_) (fun h23 => ?_)
      · skip
        replace h23 := of_decide_eq_true h23
        obtain ⟨j, hj⟩ : ∃ j : Nat, q - l.base = (j : Int) := ⟨(q - l.base).toNat, by omega⟩
        have hjl : j ≤ l.ents.length := by omega
        refine .cond_true rfl ?_
        refine .draw [] mixed .nil ?_
        refine .t 0 rfl (.fieldAddr fo25_2 rfl) rfl rfl (by kernel_rfl) <| .t 2 rfl (.move rfl) rfl rfl (by kernel_rfl) <| .t 3 rfl (.fieldAddr fo25_0 rfl) rfl rfl (by kernel_rfl) <| .t 8 rfl (.move rfl) rfl rfl (by kernel_rfl) <| .t 10 rfl (.move rfl) rfl rfl (by kernel_rfl) ?_
        refine .all (rs := [1, 4, 7]) (by kernel_rfl) (by simp) ⟨⟨_, rfl, .inl ⟨rfl, ?_⟩⟩, ⟨⟨_, rfl, .inl ⟨rfl, ?_⟩⟩, ⟨⟨_, rfl, .inl ⟨rfl, ?_⟩⟩, trivial⟩⟩⟩
        · skip
          refine .ev (.load ag23 rfl (.there <| .here) rfl) rfl ⟨.nil, Imm.le_refl _, ?_⟩
          refine .all (rs := [4, 7]) (by kernel_rfl) (by simp) ⟨⟨_, rfl, .inl ⟨rfl, ?_⟩⟩, ⟨⟨_, rfl, .inl ⟨rfl, ?_⟩⟩, trivial⟩⟩
          · skip
            refine .ev (.load ag22 rfl (.there <| .here) rfl) rfl ⟨.nil, Imm.le_refl _, ?_⟩
            refine .t 5 rfl (.sub rfl rfl (IntWalk.u64_in _ (by omega))) rfl rfl (by kernel_rfl) <| .t 6 rfl (.sliceL sl23 rfl rfl hj hjl) rfl rfl (by kernel_rfl) <| .one (i := 7) (by kernel_rfl) rfl rfl ?_
            refine .ev (.loadW ag25 sz25 rfl (.there <| .here) rfl) rfl ⟨.nil, Imm.le_refl _, ?_⟩
            refine .t 11 rfl (.fieldAddr fo25_2 rfl) rfl rfl (by kernel_rfl) <| .one (i := 9) (by kernel_rfl) rfl rfl <| .callP cal34 rfl rfl rfl (lterm_ok hlk (by omega) (by omega)) ?_
            refine ⟨.nil, Imm.le_refl _, ?_⟩
            refine .one (i := 12) (by kernel_rfl) rfl rfl <| .store sz23 rfl rfl rfl rfl rfl rfl (.there <| .here) ?_
            refine ⟨.nil, Imm.le_refl _, ?_⟩
            refine .t 13 rfl (.fieldAddr fo25_1 rfl) rfl rfl (by kernel_rfl) <| .one (i := 14) (by kernel_rfl) rfl rfl <| .store sz22 rfl rfl rfl rfl rfl rfl (.there <| .here) ?_
            refine ⟨.nil, Imm.le_refl _, ?_⟩
            refine .t 15 rfl (.fieldAddr fo25_0 rfl) rfl rfl (by kernel_rfl) <| .late (i := 16) (by kernel_rfl) (by kernel_rfl) (by kernel_rfl) rfl rfl <| .store sz22 rfl rfl rfl rfl rfl rfl (.there <| .here) <| .go <| .seq <| .region <| .e (.loadW ag25 sz25 rfl (.there <| .here) rfl) rfl rfl ?_
            refine .on rfl <| .storeW sz25 rfl rfl rfl rfl rfl rfl .here <| .e (.assign rfl) rfl rfl <| .nil <| .go <| .ret ?_
            refine Post.rets rfl (.agg rfl ag25 sz25 .here rfl (.tmp rfl .nil)) rfl (Imm.le_trans hI19 hK) (fun w h => (Sat.tail (Sat.tail h))) ?_
            rw [trimR_cut hlok (by omega) h23 hj]
            exact ⟨_, rfl, ⟨⟨_, rfl, SlR.from hek hjl⟩, hq, termAt_u64 hl0.term hut q⟩, rfl⟩
          · skip
            refine .ev (.loadW ag25 sz25 rfl (.there <| .here) rfl) rfl ⟨.nil, Imm.le_refl _, ?_⟩
            refine .all (rs := [4, 9]) (by kernel_rfl) (by simp) ⟨⟨_, rfl, .inl ⟨rfl, ?_⟩⟩, ⟨⟨_, rfl, .inl ⟨rfl, ?_⟩⟩, trivial⟩⟩
            · skip
              refine .ev (.load ag22 rfl (.there <| .here) rfl) rfl ⟨.nil, Imm.le_refl _, ?_⟩
              refine .t 5 rfl (.sub rfl rfl (IntWalk.u64_in _ (by omega))) rfl rfl (by kernel_rfl) <| .t 6 rfl (.sliceL sl23 rfl rfl hj hjl) rfl rfl (by kernel_rfl) <| .t 11 rfl (.fieldAddr fo25_2 rfl) rfl rfl (by kernel_rfl) <| .one (i := 9) (by kernel_rfl) rfl rfl <| .callP cal34 rfl rfl rfl (lterm_ok hlk (by omega) (by omega)) ?_
              refine ⟨.nil, Imm.le_refl _, ?_⟩
              refine .one (i := 12) (by kernel_rfl) rfl rfl <| .store sz23 rfl rfl rfl rfl rfl rfl (.there <| .here) ?_
              refine ⟨.nil, Imm.le_refl _, ?_⟩
              refine .t 13 rfl (.fieldAddr fo25_1 rfl) rfl rfl (by kernel_rfl) <| .one (i := 14) (by kernel_rfl) rfl rfl <| .store sz22 rfl rfl rfl rfl rfl rfl (.there <| .here) ?_
              refine ⟨.nil, Imm.le_refl _, ?_⟩
              refine .t 15 rfl (.fieldAddr fo25_0 rfl) rfl rfl (by kernel_rfl) <| .late (i := 16) (by kernel_rfl) (by kernel_rfl) (by kernel_rfl) rfl rfl <| .store sz22 rfl rfl rfl rfl rfl rfl (.there <| .here) <| .go <| .seq <| .region <| .e (.loadW ag25 sz25 rfl (.there <| .here) rfl) rfl rfl ?_
              refine .on rfl <| .storeW sz25 rfl rfl rfl rfl rfl rfl .here <| .e (.assign rfl) rfl rfl <| .nil <| .go <| .ret ?_
              refine Post.rets rfl (.agg rfl ag25 sz25 .here rfl (.tmp rfl .nil)) rfl (Imm.le_trans hI19 hK) (fun w h => (Sat.tail (Sat.tail h))) ?_
              rw [trimR_cut hlok (by omega) h23 hj]
              exact ⟨_, rfl, ⟨⟨_, rfl, SlR.from hek hjl⟩, hq, termAt_u64 hl0.term hut q⟩, rfl⟩
            · skip
              refine .callP cal34 rfl rfl rfl (lterm_ok hlk (by omega) (by omega)) ?_
              refine ⟨.nil, Imm.le_refl _, ?_⟩
              refine .one (i := 4) (by kernel_rfl) rfl rfl ?_
              refine .ev (.load ag22 rfl (.there <| .here) rfl) rfl ⟨.nil, Imm.le_refl _, ?_⟩
              refine .t 5 rfl (.sub rfl rfl (IntWalk.u64_in _ (by omega))) rfl rfl (by kernel_rfl) <| .t 6 rfl (.sliceL sl23 rfl rfl hj hjl) rfl rfl (by kernel_rfl) <| .t 11 rfl (.fieldAddr fo25_2 rfl) rfl rfl (by kernel_rfl) <| .one (i := 12) (by kernel_rfl) rfl rfl <| .store sz23 rfl rfl rfl rfl rfl rfl (.there <| .here) ?_
              refine ⟨.nil, Imm.le_refl _, ?_⟩
              refine .t 13 rfl (.fieldAddr fo25_1 rfl) rfl rfl (by kernel_rfl) <| .one (i := 14) (by kernel_rfl) rfl rfl <| .store sz22 rfl rfl rfl rfl rfl rfl (.there <| .here) ?_
              refine ⟨.nil, Imm.le_refl _, ?_⟩
              refine .t 15 rfl (.fieldAddr fo25_0 rfl) rfl rfl (by kernel_rfl) <| .late (i := 16) (by kernel_rfl) (by kernel_rfl) (by kernel_rfl) rfl rfl <| .store sz22 rfl rfl rfl rfl rfl rfl (.there <| .here) <| .go <| .seq <| .region <| .e (.loadW ag25 sz25 rfl (.there <| .here) rfl) rfl rfl ?_
              refine .on rfl <| .storeW sz25 rfl rfl rfl rfl rfl rfl .here <| .e (.assign rfl) rfl rfl <| .nil <| .go <| .ret ?_
              refine Post.rets rfl (.agg rfl ag25 sz25 .here rfl (.tmp rfl .nil)) rfl (Imm.le_trans hI19 hK) (fun w h => (Sat.tail (Sat.tail h))) ?_
              rw [trimR_cut hlok (by omega) h23 hj]
              exact ⟨_, rfl, ⟨⟨_, rfl, SlR.from hek hjl⟩, hq, termAt_u64 hl0.term hut q⟩, rfl⟩
        · skip
          refine .ev (.load ag22 rfl (.there <| .here) rfl) rfl ⟨.nil, Imm.le_refl _, ?_⟩
          refine .t 5 rfl (.sub rfl rfl (IntWalk.u64_in _ (by omega))) rfl rfl (by kernel_rfl) ?_
          refine .all (rs := [1, 7]) (by kernel_rfl) (by simp) ⟨⟨_, rfl, .inl ⟨rfl, ?_⟩⟩, ⟨⟨_, rfl, .inl ⟨rfl, ?_⟩⟩, trivial⟩⟩
          · skip
            refine .ev (.load ag23 rfl (.there <| .here) rfl) rfl ⟨.nil, Imm.le_refl _, ?_⟩
            refine .t 6 rfl (.sliceL sl23 rfl rfl hj hjl) rfl rfl (by kernel_rfl) <| .one (i := 7) (by kernel_rfl) rfl rfl ?_
            refine .ev (.loadW ag25 sz25 rfl (.there <| .here) rfl) rfl ⟨.nil, Imm.le_refl _, ?_⟩
            refine .t 11 rfl (.fieldAddr fo25_2 rfl) rfl rfl (by kernel_rfl) <| .one (i := 9) (by kernel_rfl) rfl rfl <| .callP cal34 rfl rfl rfl (lterm_ok hlk (by omega) (by omega)) ?_
            refine ⟨.nil, Imm.le_refl _, ?_⟩
            refine .one (i := 12) (by kernel_rfl) rfl rfl <| .store sz23 rfl rfl rfl rfl rfl rfl (.there <| .here) ?_
            refine ⟨.nil, Imm.le_refl _, ?_⟩
            refine .t 13 rfl (.fieldAddr fo25_1 rfl) rfl rfl (by kernel_rfl) <| .one (i := 14) (by kernel_rfl) rfl rfl <| .store sz22 rfl rfl rfl rfl rfl rfl (.there <| .here) ?_
            refine ⟨.nil, Imm.le_refl _, ?_⟩
            refine .t 15 rfl (.fieldAddr fo25_0 rfl) rfl rfl (by kernel_rfl) <| .late (i := 16) (by kernel_rfl) (by kernel_rfl) (by kernel_rfl) rfl rfl <| .store sz22 rfl rfl rfl rfl rfl rfl (.there <| .here) <| .go <| .seq <| .region <| .e (.loadW ag25 sz25 rfl (.there <| .here) rfl) rfl rfl ?_
            refine .on rfl <| .storeW sz25 rfl rfl rfl rfl rfl rfl .here <| .e (.assign rfl) rfl rfl <| .nil <| .go <| .ret ?_
            refine Post.rets rfl (.agg rfl ag25 sz25 .here rfl (.tmp rfl .nil)) rfl (Imm.le_trans hI19 hK) (fun w h => (Sat.tail (Sat.tail h))) ?_
            rw [trimR_cut hlok (by omega) h23 hj]
            exact ⟨_, rfl, ⟨⟨_, rfl, SlR.from hek hjl⟩, hq, termAt_u64 hl0.term hut q⟩, rfl⟩
          · skip
            refine .ev (.loadW ag25 sz25 rfl (.there <| .here) rfl) rfl ⟨.nil, Imm.le_refl _, ?_⟩
            refine .all (rs := [1, 9]) (by kernel_rfl) (by simp) ⟨⟨_, rfl, .inl ⟨rfl, ?_⟩⟩, ⟨⟨_, rfl, .inl ⟨rfl, ?_⟩⟩, trivial⟩⟩
            · skip
              refine .ev (.load ag23 rfl (.there <| .here) rfl) rfl ⟨.nil, Imm.le_refl _, ?_⟩
              refine .t 6 rfl (.sliceL sl23 rfl rfl hj hjl) rfl rfl (by kernel_rfl) <| .t 11 rfl (.fieldAddr fo25_2 rfl) rfl rfl (by kernel_rfl) <| .one (i := 9) (by kernel_rfl) rfl rfl <| .callP cal34 rfl rfl rfl (lterm_ok hlk (by omega) (by omega)) ?_
              refine ⟨.nil, Imm.le_refl _, ?_⟩
              refine .one (i := 12) (by kernel_rfl) rfl rfl <| .store sz23 rfl rfl rfl rfl rfl rfl (.there <| .here) ?_
              refine ⟨.nil, Imm.le_refl _, ?_⟩
              refine .t 13 rfl (.fieldAddr fo25_1 rfl) rfl rfl (by kernel_rfl) <| .one (i := 14) (by kernel_rfl) rfl rfl <| .store sz22 rfl rfl rfl rfl rfl rfl (.there <| .here) ?_
              refine ⟨.nil, Imm.le_refl _, ?_⟩
              refine .t 15 rfl (.fieldAddr fo25_0 rfl) rfl rfl (by kernel_rfl) <| .late (i := 16) (by kernel_rfl) (by kernel_rfl) (by kernel_rfl) rfl rfl <| .store sz22 rfl rfl rfl rfl rfl rfl (.there <| .here) <| .go <| .seq <| .region <| .e (.loadW ag25 sz25 rfl (.there <| .here) rfl) rfl rfl ?_
              refine .on rfl <| .storeW sz25 rfl rfl rfl rfl rfl rfl .here <| .e (.assign rfl) rfl rfl <| .nil <| .go <| .ret ?_
              refine Post.rets rfl (.agg rfl ag25 sz25 .here rfl (.tmp rfl .nil)) rfl (Imm.le_trans hI19 hK) (fun w h => (Sat.tail (Sat.tail h))) ?_
              rw [trimR_cut hlok (by omega) h23 hj]
              exact ⟨_, rfl, ⟨⟨_, rfl, SlR.from hek hjl⟩, hq, termAt_u64 hl0.term hut q⟩, rfl⟩
            · skip
              refine .callP cal34 rfl rfl rfl (lterm_ok hlk (by omega) (by omega)) ?_
              refine ⟨.nil, Imm.le_refl _, ?_⟩
              refine .one (i := 1) (by kernel_rfl) rfl rfl ?_
              refine .ev (.load ag23 rfl (.there <| .here) rfl) rfl ⟨.nil, Imm.le_refl _, ?_⟩
              refine .t 6 rfl (.sliceL sl23 rfl rfl hj hjl) rfl rfl (by kernel_rfl) <| .t 11 rfl (.fieldAddr fo25_2 rfl) rfl rfl (by kernel_rfl) <| .one (i := 12) (by kernel_rfl) rfl rfl <| .store sz23 rfl rfl rfl rfl rfl rfl (.there <| .here) ?_
              refine ⟨.nil, Imm.le_refl _, ?_⟩
              refine .t 13 rfl (.fieldAddr fo25_1 rfl) rfl rfl (by kernel_rfl) <| .one (i := 14) (by kernel_rfl) rfl rfl <| .store sz22 rfl rfl rfl rfl rfl rfl (.there <| .here) ?_
              refine ⟨.nil, Imm.le_refl _, ?_⟩
              refine .t 15 rfl (.fieldAddr fo25_0 rfl) rfl rfl (by kernel_rfl) <| .late (i := 16) (by kernel_rfl) (by kernel_rfl) (by kernel_rfl) rfl rfl <| .store sz22 rfl rfl rfl rfl rfl rfl (.there <| .here) <| .go <| .seq <| .region <| .e (.loadW ag25 sz25 rfl (.there <| .here) rfl) rfl rfl ?_
              refine .on rfl <| .storeW sz25 rfl rfl rfl rfl rfl rfl .here <| .e (.assign rfl) rfl rfl <| .nil <| .go <| .ret ?_
              refine Post.rets rfl (.agg rfl ag25 sz25 .here rfl (.tmp rfl .nil)) rfl (Imm.le_trans hI19 hK) (fun w h => (Sat.tail (Sat.tail h))) ?_
              rw [trimR_cut hlok (by omega) h23 hj]
              exact ⟨_, rfl, ⟨⟨_, rfl, SlR.from hek hjl⟩, hq, termAt_u64 hl0.term hut q⟩, rfl⟩
        · skip
          refine .ev (.loadW ag25 sz25 rfl (.there <| .here) rfl) rfl ⟨.nil, Imm.le_refl _, ?_⟩
          refine .all (rs := [1, 4, 9]) (by kernel_rfl) (by simp) ⟨⟨_, rfl, .inl ⟨rfl, ?_⟩⟩, ⟨⟨_, rfl, .inl ⟨rfl, ?_⟩⟩, ⟨⟨_, rfl, .inl ⟨rfl, ?_⟩⟩, trivial⟩⟩⟩
          · skip
            refine .ev (.load ag23 rfl (.there <| .here) rfl) rfl ⟨.nil, Imm.le_refl _, ?_⟩
            refine .all (rs := [4, 9]) (by kernel_rfl) (by simp) ⟨⟨_, rfl, .inl ⟨rfl, ?_⟩⟩, ⟨⟨_, rfl, .inl ⟨rfl, ?_⟩⟩, trivial⟩⟩
            · skip
              refine .ev (.load ag22 rfl (.there <| .here) rfl) rfl ⟨.nil, Imm.le_refl _, ?_⟩
              refine .t 5 rfl (.sub rfl rfl (IntWalk.u64_in _ (by omega))) rfl rfl (by kernel_rfl) <| .t 6 rfl (.sliceL sl23 rfl rfl hj hjl) rfl rfl (by kernel_rfl) <| .t 11 rfl (.fieldAddr fo25_2 rfl) rfl rfl (by kernel_rfl) <| .one (i := 9) (by kernel_rfl) rfl rfl <| .callP cal34 rfl rfl rfl (lterm_ok hlk (by omega) (by omega)) ?_
              refine ⟨.nil, Imm.le_refl _, ?_⟩
              refine .one (i := 12) (by kernel_rfl) rfl rfl <| .store sz23 rfl rfl rfl rfl rfl rfl (.there <| .here) ?_
              refine ⟨.nil, Imm.le_refl _, ?_⟩
              refine .t 13 rfl (.fieldAddr fo25_1 rfl) rfl rfl (by kernel_rfl) <| .one (i := 14) (by kernel_rfl) rfl rfl <| .store sz22 rfl rfl rfl rfl rfl rfl (.there <| .here) ?_
              refine ⟨.nil, Imm.le_refl _, ?_⟩
              refine .t 15 rfl (.fieldAddr fo25_0 rfl) rfl rfl (by kernel_rfl) <| .late (i := 16) (by kernel_rfl) (by kernel_rfl) (by kernel_rfl) rfl rfl <| .store sz22 rfl rfl rfl rfl rfl rfl (.there <| .here) <| .go <| .seq <| .region <| .e (.loadW ag25 sz25 rfl (.there <| .here) rfl) rfl rfl ?_
              refine .on rfl <| .storeW sz25 rfl rfl rfl rfl rfl rfl .here <| .e (.assign rfl) rfl rfl <| .nil <| .go <| .ret ?_
              refine Post.rets rfl (.agg rfl ag25 sz25 .here rfl (.tmp rfl .nil)) rfl (Imm.le_trans hI19 hK) (fun w h => (Sat.tail (Sat.tail h))) ?_
              rw [trimR_cut hlok (by omega) h23 hj]
              exact ⟨_, rfl, ⟨⟨_, rfl, SlR.from hek hjl⟩, hq, termAt_u64 hl0.term hut q⟩, rfl⟩
            · skip
              refine .callP cal34 rfl rfl rfl (lterm_ok hlk (by omega) (by omega)) ?_
              refine ⟨.nil, Imm.le_refl _, ?_⟩
              refine .one (i := 4) (by kernel_rfl) rfl rfl ?_
              refine .ev (.load ag22 rfl (.there <| .here) rfl) rfl ⟨.nil, Imm.le_refl _, ?_⟩
              refine .t 5 rfl (.sub rfl rfl (IntWalk.u64_in _ (by omega))) rfl rfl (by kernel_rfl) <| .t 6 rfl (.sliceL sl23 rfl rfl hj hjl) rfl rfl (by kernel_rfl) <| .t 11 rfl (.fieldAddr fo25_2 rfl) rfl rfl (by kernel_rfl) <| .one (i := 12) (by kernel_rfl) rfl rfl <| .store sz23 rfl rfl rfl rfl rfl rfl (.there <| .here) ?_
              refine ⟨.nil, Imm.le_refl _, ?_⟩
              refine .t 13 rfl (.fieldAddr fo25_1 rfl) rfl rfl (by kernel_rfl) <| .one (i := 14) (by kernel_rfl) rfl rfl <| .store sz22 rfl rfl rfl rfl rfl rfl (.there <| .here) ?_
              refine ⟨.nil, Imm.le_refl _, ?_⟩
              refine .t 15 rfl (.fieldAddr fo25_0 rfl) rfl rfl (by kernel_rfl) <| .late (i := 16) (by kernel_rfl) (by kernel_rfl) (by kernel_rfl) rfl rfl <| .store sz22 rfl rfl rfl rfl rfl rfl (.there <| .here) <| .go <| .seq <| .region <| .e (.loadW ag25 sz25 rfl (.there <| .here) rfl) rfl rfl ?_
              refine .on rfl <| .storeW sz25 rfl rfl rfl rfl rfl rfl .here <| .e (.assign rfl) rfl rfl <| .nil <| .go <| .ret ?_
              refine Post.rets rfl (.agg rfl ag25 sz25 .here rfl (.tmp rfl .nil)) rfl (Imm.le_trans hI19 hK) (fun w h => (Sat.tail (Sat.tail h))) ?_
              rw [trimR_cut hlok (by omega) h23 hj]
              exact ⟨_, rfl, ⟨⟨_, rfl, SlR.from hek hjl⟩, hq, termAt_u64 hl0.term hut q⟩, rfl⟩
          · skip
            refine .ev (.load ag22 rfl (.there <| .here) rfl) rfl ⟨.nil, Imm.le_refl _, ?_⟩
            refine .t 5 rfl (.sub rfl rfl (IntWalk.u64_in _ (by omega))) rfl rfl (by kernel_rfl) ?_
            refine .all (rs := [1, 9]) (by kernel_rfl) (by simp) ⟨⟨_, rfl, .inl ⟨rfl, ?_⟩⟩, ⟨⟨_, rfl, .inl ⟨rfl, ?_⟩⟩, trivial⟩⟩
            · skip
              refine .ev (.load ag23 rfl (.there <| .here) rfl) rfl ⟨.nil, Imm.le_refl _, ?_⟩
              refine .t 6 rfl (.sliceL sl23 rfl rfl hj hjl) rfl rfl (by kernel_rfl) <| .t 11 rfl (.fieldAddr fo25_2 rfl) rfl rfl (by kernel_rfl) <| .one (i := 9) (by kernel_rfl) rfl rfl <| .callP cal34 rfl rfl rfl (lterm_ok hlk (by omega) (by omega)) ?_
              refine ⟨.nil, Imm.le_refl _, ?_⟩
              refine .one (i := 12) (by kernel_rfl) rfl rfl <| .store sz23 rfl rfl rfl rfl rfl rfl (.there <| .here) ?_
              refine ⟨.nil, Imm.le_refl _, ?_⟩
              refine .t 13 rfl (.fieldAddr fo25_1 rfl) rfl rfl (by kernel_rfl) <| .one (i := 14) (by kernel_rfl) rfl rfl <| .store sz22 rfl rfl rfl rfl rfl rfl (.there <| .here) ?_
              refine ⟨.nil, Imm.le_refl _, ?_⟩
              refine .t 15 rfl (.fieldAddr fo25_0 rfl) rfl rfl (by kernel_rfl) <| .late (i := 16) (by kernel_rfl) (by kernel_rfl) (by kernel_rfl) rfl rfl <| .store sz22 rfl rfl rfl rfl rfl rfl (.there <| .here) <| .go <| .seq <| .region <| .e (.loadW ag25 sz25 rfl (.there <| .here) rfl) rfl rfl ?_
              refine .on rfl <| .storeW sz25 rfl rfl rfl rfl rfl rfl .here <| .e (.assign rfl) rfl rfl <| .nil <| .go <| .ret ?_
              refine Post.rets rfl (.agg rfl ag25 sz25 .here rfl (.tmp rfl .nil)) rfl (Imm.le_trans hI19 hK) (fun w h => (Sat.tail (Sat.tail h))) ?_
              rw [trimR_cut hlok (by omega) h23 hj]
              exact ⟨_, rfl, ⟨⟨_, rfl, SlR.from hek hjl⟩, hq, termAt_u64 hl0.term hut q⟩, rfl⟩
            · skip
              refine .callP cal34 rfl rfl rfl (lterm_ok hlk (by omega) (by omega)) ?_
              refine ⟨.nil, Imm.le_refl _, ?_⟩
              refine .one (i := 1) (by kernel_rfl) rfl rfl ?_
              refine .ev (.load ag23 rfl (.there <| .here) rfl) rfl ⟨.nil, Imm.le_refl _, ?_⟩
              refine .t 6 rfl (.sliceL sl23 rfl rfl hj hjl) rfl rfl (by kernel_rfl) <| .t 11 rfl (.fieldAddr fo25_2 rfl) rfl rfl (by kernel_rfl) <| .one (i := 12) (by kernel_rfl) rfl rfl <| .store sz23 rfl rfl rfl rfl rfl rfl (.there <| .here) ?_
              refine ⟨.nil, Imm.le_refl _, ?_⟩
              refine .t 13 rfl (.fieldAddr fo25_1 rfl) rfl rfl (by kernel_rfl) <| .one (i := 14) (by kernel_rfl) rfl rfl <| .store sz22 rfl rfl rfl rfl rfl rfl (.there <| .here) ?_
              refine ⟨.nil, Imm.le_refl _, ?_⟩
              refine .t 15 rfl (.fieldAddr fo25_0 rfl) rfl rfl (by kernel_rfl) <| .late (i := 16) (by kernel_rfl) (by kernel_rfl) (by kernel_rfl) rfl rfl <| .store sz22 rfl rfl rfl rfl rfl rfl (.there <| .here) <| .go <| .seq <| .region <| .e (.loadW ag25 sz25 rfl (.there <| .here) rfl) rfl rfl ?_
              refine .on rfl <| .storeW sz25 rfl rfl rfl rfl rfl rfl .here <| .e (.assign rfl) rfl rfl <| .nil <| .go <| .ret ?_
              refine Post.rets rfl (.agg rfl ag25 sz25 .here rfl (.tmp rfl .nil)) rfl (Imm.le_trans hI19 hK) (fun w h => (Sat.tail (Sat.tail h))) ?_
              rw [trimR_cut hlok (by omega) h23 hj]
              exact ⟨_, rfl, ⟨⟨_, rfl, SlR.from hek hjl⟩, hq, termAt_u64 hl0.term hut q⟩, rfl⟩
          · skip
            refine .callP cal34 rfl rfl rfl (lterm_ok hlk (by omega) (by omega)) ?_
            refine ⟨.nil, Imm.le_refl _, ?_⟩
            refine .all (rs := [1, 4]) (by kernel_rfl) (by simp) ⟨⟨_, rfl, .inl ⟨rfl, ?_⟩⟩, ⟨⟨_, rfl, .inl ⟨rfl, ?_⟩⟩, trivial⟩⟩
            · skip
              refine .ev (.load ag23 rfl (.there <| .here) rfl) rfl ⟨.nil, Imm.le_refl _, ?_⟩
              refine .one (i := 4) (by kernel_rfl) rfl rfl ?_
              refine .ev (.load ag22 rfl (.there <| .here) rfl) rfl ⟨.nil, Imm.le_refl _, ?_⟩
              refine .t 5 rfl (.sub rfl rfl (IntWalk.u64_in _ (by omega))) rfl rfl (by kernel_rfl) <| .t 6 rfl (.sliceL sl23 rfl rfl hj hjl) rfl rfl (by kernel_rfl) <| .t 11 rfl (.fieldAddr fo25_2 rfl) rfl rfl (by kernel_rfl) <| .one (i := 12) (by kernel_rfl) rfl rfl <| .store sz23 rfl rfl rfl rfl rfl rfl (.there <| .here) ?_
              refine ⟨.nil, Imm.le_refl _, ?_⟩
              refine .t 13 rfl (.fieldAddr fo25_1 rfl) rfl rfl (by kernel_rfl) <| .one (i := 14) (by kernel_rfl) rfl rfl <| .store sz22 rfl rfl rfl rfl rfl rfl (.there <| .here) ?_
              refine ⟨.nil, Imm.le_refl _, ?_⟩
              refine .t 15 rfl (.fieldAddr fo25_0 rfl) rfl rfl (by kernel_rfl) <| .late (i := 16) (by kernel_rfl) (by kernel_rfl) (by kernel_rfl) rfl rfl <| .store sz22 rfl rfl rfl rfl rfl rfl (.there <| .here) <| .go <| .seq <| .region <| .e (.loadW ag25 sz25 rfl (.there <| .here) rfl) rfl rfl ?_
              refine .on rfl <| .storeW sz25 rfl rfl rfl rfl rfl rfl .here <| .e (.assign rfl) rfl rfl <| .nil <| .go <| .ret ?_
              refine Post.rets rfl (.agg rfl ag25 sz25 .here rfl (.tmp rfl .nil)) rfl (Imm.le_trans hI19 hK) (fun w h => (Sat.tail (Sat.tail h))) ?_
              rw [trimR_cut hlok (by omega) h23 hj]
              exact ⟨_, rfl, ⟨⟨_, rfl, SlR.from hek hjl⟩, hq, termAt_u64 hl0.term hut q⟩, rfl⟩
            · skip
              refine .ev (.load ag22 rfl (.there <| .here) rfl) rfl ⟨.nil, Imm.le_refl _, ?_⟩
              refine .t 5 rfl (.sub rfl rfl (IntWalk.u64_in _ (by omega))) rfl rfl (by kernel_rfl) <| .one (i := 1) (by kernel_rfl) rfl rfl ?_
              refine .ev (.load ag23 rfl (.there <| .here) rfl) rfl ⟨.nil, Imm.le_refl _, ?_⟩
              refine .t 6 rfl (.sliceL sl23 rfl rfl hj hjl) rfl rfl (by kernel_rfl) <| .t 11 rfl (.fieldAddr fo25_2 rfl) rfl rfl (by kernel_rfl) <| .one (i := 12) (by kernel_rfl) rfl rfl <| .store sz23 rfl rfl rfl rfl rfl rfl (.there <| .here) ?_
              refine ⟨.nil, Imm.le_refl _, ?_⟩
              refine .t 13 rfl (.fieldAddr fo25_1 rfl) rfl rfl (by kernel_rfl) <| .one (i := 14) (by kernel_rfl) rfl rfl <| .store sz22 rfl rfl rfl rfl rfl rfl (.there <| .here) ?_
              refine ⟨.nil, Imm.le_refl _, ?_⟩
              refine .t 15 rfl (.fieldAddr fo25_0 rfl) rfl rfl (by kernel_rfl) <| .late (i := 16) (by kernel_rfl) (by kernel_rfl) (by kernel_rfl) rfl rfl <| .store sz22 rfl rfl rfl rfl rfl rfl (.there <| .here) <| .go <| .seq <| .region <| .e (.loadW ag25 sz25 rfl (.there <| .here) rfl) rfl rfl ?_
              refine .on rfl <| .storeW sz25 rfl rfl rfl rfl rfl rfl .here <| .e (.assign rfl) rfl rfl <| .nil <| .go <| .ret ?_
              refine Post.rets rfl (.agg rfl ag25 sz25 .here rfl (.tmp rfl .nil)) rfl (Imm.le_trans hI19 hK) (fun w h => (Sat.tail (Sat.tail h))) ?_
              rw [trimR_cut hlok (by omega) h23 hj]
              exact ⟨_, rfl, ⟨⟨_, rfl, SlR.from hek hjl⟩, hq, termAt_u64 hl0.term hut q⟩, rfl⟩
      · skip
        replace h23 := of_decide_eq_false h23
        refine .cond_false rfl <| .skip <| .go <| .seq <| .region <| .e (.loadW ag25 sz25 rfl (.there <| .here) rfl) rfl rfl ?_
        refine .on rfl <| .storeW sz25 rfl rfl rfl rfl rfl rfl .here <| .e (.assign rfl) rfl rfl <| .nil <| .go <| .ret ?_
        refine Post.rets rfl (.agg rfl ag25 sz25 .here rfl (.tmp rfl .nil)) rfl (Imm.le_trans hI19 hK) (fun w h => (Sat.tail (Sat.tail h))) ?_
        rw [trimR_all hlok (by omega) (by omega)]
        exact ⟨_, rfl, hlk, rfl⟩

set_option maxHeartbeats 1000000 in
set_option maxRecDepth 20000 in
theorem rTrim_ok {I : Imm} {O : Own} {lc : List Value} {l : Lg} (hl : LgR I lc l) {q : Int} (hq : U64 q) (hL : l.ents.length * 64 ≤ 140737488351232) (hM : ∀ e ∈ l.ents, e.members.length * 8 ≤ 140737488351232) :
    Go.Sy.Does Try.prog 14 [.agg ⟨lc⟩, .int .u64 q] I O (fun u I' O' => ∃ cs, u = .tuple ⟨[.agg ⟨cs⟩, .int .i64 (trimR l q).2]⟩ ∧ LgR I' cs (trimR l q).1 ∧ O' = O) := by
  have hl0 := hl
  obtain ⟨ev, rfl, hev⟩ := hl.ex
  have hev0 := hev
  obtain ⟨va, vcap, rfl, hv1, hv2, -⟩ := hev
  have hbase := hl0.base
  have hterm := hl0.term
  unfold U64 at hbase hterm
  have hu : ∀ j (hj : j < l.ents.length), U64 l.ents[j].index := fun j hj => by
    obtain ⟨_, _, _, _, _, hr⟩ := SlR.at_ hev0 hj
    exact hr.index
  have hut : ∀ j (hj : j < l.ents.length), U64 l.ents[j].term := fun j hj => by
    obtain ⟨_, _, _, _, _, hr⟩ := SlR.at_ hev0 hj
    exact hr.term
  have hq0 := hq
  unfold U64 at hq0
  refine Go.Sy.Does.enter Try.func14 rfl Try.ntmps14 rfl ?_
  refine .seq <| .region <| .on rfl <| .box rfl rfl rfl fun c1 _ _ => .on rfl <| .alloc zr25 rfl fun c2 _ _ => .e (.assign rfl) rfl rfl <| .nil ?_
  refine .go <| .seq <| .seq <| .region <| .e (.loadW ag25 sz25 rfl (.there <| .here) rfl) rfl rfl <| .on rfl <| .callP cal30 rfl rfl rfl (rlCheck_ok hl0) ?_
  refine .e (.neq rfl rfl) rfl rfl <| .nil <| .go ?_
  refine .split 11 rfl (fun h11 => ?_) (fun h11 => ?_)
  · skip
    first | replace h11 := of_decide_eq_false ((Bool.not_eq_true' _).mp h11) | replace h11 := of_decide_eq_false (by simpa using h11)
    refine .cond_true rfl <| .seq <| .region <| .e (.build bs25 zv25 rfl rfl) rfl rfl <| .on rfl <| .storeW sz25 rfl rfl rfl rfl rfl rfl .here <| .e (.assign rfl) rfl rfl ?_
    refine .nil <| .go <| .ret <| .ret ?_
    refine Post.rets rfl (.agg rfl ag25 sz25 .here rfl (.tmp rfl .nil)) rfl (Imm.le_refl _) (fun w h => (Sat.tail (Sat.tail h))) ?_
    rw [trimR_no h11 rfl]
    exact ⟨_, rfl, zLgR, rfl⟩
  · skip
    first | replace h11 := of_decide_eq_true ((Bool.not_eq_false' _).mp h11) | replace h11 := of_decide_eq_true (by simpa using h11)
    have hok := logOk_why h11
    have hlok : logOk l = true := hok
    have hle := logTo_le hl0.base hu (Nat.le_refl _) hok
    have hae := at_end hl0.base (show endOf l ≤ 18446744073709551615 by unfold endOf; omega)
    have heo : endOf l = l.base + (l.ents.length : Int) := rfl
    refine .cond_false rfl <| .skip <| .go <| .seq <| .region <| .e (.loadW ag25 sz25 rfl (.there <| .here) rfl) rfl rfl ?_
    refine .on rfl <| .callP cal37 rfl rfl rfl (rLast_ok hl0 hok) <| .e (.move rfl) rfl rfl <| .e (.extract rfl rfl) rfl rfl <| .e (.extract rfl rfl) rfl rfl <| .e (.assign rfl) rfl rfl <| .e (.assign rfl) rfl rfl ?_
    refine .nil <| .go <| .seq <| .seq <| .region <| .e (.move rfl) rfl rfl ?_
    refine .e (.move rfl) rfl rfl <| .e (.gtr rfl rfl) rfl rfl <| .nil <| .go ?_
    refine .split 20 rfl (fun h20 => ?_) (fun h20 => ?_)
    · skip
      replace h20 := of_decide_eq_true h20
      refine .cond_true rfl <| .seq <| .region <| .e (.build bs25 zv25 rfl rfl) rfl rfl <| .on rfl <| .storeW sz25 rfl rfl rfl rfl rfl rfl .here <| .e (.assign rfl) rfl rfl ?_
      refine .nil <| .go <| .ret <| .ret ?_
      refine Post.rets rfl (.agg rfl ag25 sz25 .here rfl (.tmp rfl .nil)) rfl (Imm.le_refl _) (fun w h => (Sat.tail (Sat.tail h))) ?_
      rw [trimR_far hlok (by omega)]
      exact ⟨_, rfl, zLgR, rfl⟩
    · skip
      replace h20 := of_decide_eq_false h20
      refine .cond_false rfl <| .skip <| .go <| .seq <| .region <| .e (.loadW ag25 sz25 rfl (.there <| .here) rfl) rfl rfl ?_
      refine .on rfl <| .call cal9 rfl rfl rfl (rCopy_ok hl0 hL hM) fun v23 I23 O23 hI23 hK23 => ?_
      obtain ⟨ev23, ws23, ob23, rfl, ho23, hd23, rfl⟩ := hK23
      obtain ⟨ad23, cap23, rfl⟩ := ho23.form
      refine .freezeS ho23 fun K hK hKs => ?_
      have hek : EntsR K _ l.ents := hKs (R := EntR) (hd23.mono fun _ _ h => h.mono hK) rfl
      have hlk : LgR K (l.cells (.slice ad23 l.ents.length cap23)) l := ⟨⟨_, rfl, hek⟩, hl0.base, hl0.term⟩
      refine .on rfl <| .storeW sz25 rfl rfl rfl rfl rfl rfl (.there <| .here) <| .nil <| .go <| .seq <| .seq <| .region ?_
      refine .e (.move rfl) rfl rfl <| .e (.fieldAddr fo25_0 rfl) rfl rfl <| .e (.load ag22 rfl (.there <| .here) rfl) rfl rfl <| .e (.leq rfl rfl) rfl rfl <| .nil <| .go ?_
      refine .split 27 rfl (fun h27 => ?_) (fun h27 => ?_)
      · skip
        replace h27 := of_decide_eq_true h27
        refine .cond_true rfl <| .seq <| .region <| .e (.loadW ag25 sz25 rfl (.there <| .here) rfl) rfl rfl <| .on rfl <| .storeW sz25 rfl rfl rfl rfl rfl rfl .here <| .e (.assign rfl) rfl rfl ?_
        refine .nil <| .go <| .ret <| .ret ?_
        refine Post.rets rfl (.agg rfl ag25 sz25 .here rfl (.tmp rfl .nil)) rfl (Imm.le_trans hI23 hK) (fun w h => (Sat.tail (Sat.tail h))) ?_
        rw [trimR_all hlok (by omega) (by omega)]
        exact ⟨_, rfl, hlk, rfl⟩
      · skip
        replace h27 := of_decide_eq_false h27
        obtain ⟨j, hj⟩ : ∃ j : Nat, q - l.base = (j : Int) := ⟨(q - l.base).toNat, by omega⟩
        have hjl : j ≤ l.ents.length := by omega
        refine .cond_false rfl <| .skip <| .go <| .seq <| .region <| .e (.loadW ag25 sz25 rfl (.there <| .here) rfl) rfl rfl ?_
        refine .e (.move rfl) rfl rfl <| .on rfl <| .callP cal38 rfl rfl rfl (rat_ok hlk (by omega) (by omega)) <| .e (.assign rfl) rfl rfl <| .nil <| .go <| .seq ?_
        refine .region <| .e (.fieldAddr fo25_2 rfl) rfl rfl <| .e (.load ag23 rfl (.there <| .here) rfl) rfl rfl <| .e (.move rfl) rfl rfl <| .e (.fieldAddr fo25_0 rfl) rfl rfl <| .e (.load ag22 rfl (.there <| .here) rfl) rfl rfl ?_
        refine .e (.sub rfl rfl (IntWalk.u64_in _ (by omega))) rfl rfl <| .e (.sliceL sl23 rfl rfl hj hjl) rfl rfl <| .e (.fieldAddr fo25_2 rfl) rfl rfl <| .on rfl <| .store sz23 rfl rfl rfl rfl rfl rfl (.there <| .here) <| .nil <| .go ?_
        refine .seq <| .region <| .e (.move rfl) rfl rfl <| .e (.fieldAddr fo25_0 rfl) rfl rfl <| .on rfl <| .store sz22 rfl rfl rfl rfl rfl rfl (.there <| .here) <| .nil ?_
        refine .go <| .seq <| .region <| .e (.move rfl) rfl rfl <| .e (.fieldAddr fo25_1 rfl) rfl rfl <| .on rfl <| .store sz22 rfl rfl rfl rfl rfl rfl (.there <| .here) ?_
        refine .nil <| .go <| .seq <| .region <| .e (.loadW ag25 sz25 rfl (.there <| .here) rfl) rfl rfl <| .on rfl <| .storeW sz25 rfl rfl rfl rfl rfl rfl .here ?_
        refine .e (.assign rfl) rfl rfl <| .nil <| .go <| .ret ?_
        refine Post.rets rfl (.agg rfl ag25 sz25 .here rfl (.tmp rfl .nil)) rfl (Imm.le_trans hI23 hK) (fun w h => (Sat.tail (Sat.tail h))) ?_
        rw [trimR_cut hlok (by omega) (by omega) hj]
        exact ⟨_, rfl, ⟨⟨_, rfl, SlR.from hek hjl⟩, hq, termAt_u64 hl0.term hut q⟩, rfl⟩

end Go.Proofs.Yteajcmnbjpbnpaa
