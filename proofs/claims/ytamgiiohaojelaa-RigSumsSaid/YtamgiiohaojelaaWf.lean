/- Walks of functions over a symbolic memory, printed by a program of the session. -/
import Derived.Test.YtamgiiohaojelaaWe
namespace Go.Proofs.Ytamgiiohaojelaa
open Go.Sy
set_option linter.unusedSimpArgs false
set_option linter.unusedVariables false

def addT (x : A3) (t : Tsk) : A3 := ⟨x.a + t.needs.a, x.b + t.needs.b, x.c + t.needs.c⟩
theorem sumT_from (l : List Tsk) : ∀ x : A3, l.foldl addT x = ⟨x.a + (sumT l).a, x.b + (sumT l).b, x.c + (sumT l).c⟩ := by
  induction l with
  | nil => intro x; simp [sumT]
  | cons t r ih =>
    intro x
    have e : sumT (t :: r) = r.foldl addT (addT ⟨0, 0, 0⟩ t) := rfl
    rw [List.foldl_cons, ih, e, ih]
    simp [addT, Int.add_assoc]
theorem sumT_end (l : List Tsk) (t : Tsk) : sumT (l ++ [t]) = ⟨(sumT l).a + t.needs.a, (sumT l).b + t.needs.b, (sumT l).c + t.needs.c⟩ := by
  unfold sumT; rw [List.foldl_append]; rfl
theorem sumT_comm (l : List Tsk) (t : Tsk) : sumT (l ++ [t]) = sumT ([t] ++ l) := by
  have e : sumT ([t] ++ l) = l.foldl addT (addT ⟨0, 0, 0⟩ t) := rfl
  rw [sumT_end, e, sumT_from]
  simp [addT, Int.add_comm]
theorem sumR_comm (l : List Tsk) (t : Tsk) : sumR (l ++ [t]) = sumR ([t] ++ l) := by
  unfold sumR
  rw [sumT_comm, List.any_append, List.any_append, Bool.or_comm]
  simp [Nat.add_comm]
theorem sumR_no {l : List Tsk} (h : (sumR l).2 ≠ 0) : (sumR l).1 = ⟨0, 0, 0⟩ := by
  unfold sumR at *
  split at h
  · rename_i h1; rw [if_pos h1]
  · exact absurd rfl h
theorem sumR_yes {l : List Tsk} (h : (sumR l).2 = 0) : l.length ≤ 32 ∧ l.any badT = false ∧ (sumR l).1 = sumT l := by
  unfold sumR at *
  split at h
  · cases h
  · rename_i h1
    rw [if_neg h1]
    exact ⟨by omega, by simpa using fun h2 => h1 (.inr h2), rfl⟩
theorem sum_bound {l : List Tsk} (h : l.any badT = false) : ∀ k, k ≤ l.length → Acc l k (sumT (l.take k))
  | 0, _ => .zero
  | k + 1, hk => by
    rw [sumT_take (by omega)]
    exact (sum_bound h k (by omega)).step (by omega) (amt_get (by omega) h)
theorem sums_ok {l : List Tsk} {t : Tsk} (h : (sumR (l ++ [t])).2 = 0) : (sumR l).2 = 0 ∧ (sumR l).1 = sumT l ∧ (sumR (l ++ [t])).1 = ⟨(sumT l).a + t.needs.a, (sumT l).b + t.needs.b, (sumT l).c + t.needs.c⟩ ∧
    (0 ≤ t.needs.a ∧ 0 ≤ t.needs.b ∧ 0 ≤ t.needs.c ∧ t.needs.a ≤ 1099511627776 * 1 ∧ t.needs.b ≤ 1099511627776 * 1 ∧ t.needs.c ≤ 1099511627776 * 1) ∧
    (0 ≤ (sumR l).1.a ∧ 0 ≤ (sumR l).1.b ∧ 0 ≤ (sumR l).1.c ∧ (sumR l).1.a ≤ 1099511627776 * 32 ∧ (sumR l).1.b ≤ 1099511627776 * 32 ∧ (sumR l).1.c ≤ 1099511627776 * 32) := by
  obtain ⟨h1, h2, h3⟩ := sumR_yes h
  rw [List.any_append, Bool.or_eq_false_iff] at h2
  rw [List.length_append] at h1
  have h4 : t.needs.amt 1 = true := by simpa [badT] using h2.2
  have e : sumR l = (sumT l, 0) := by unfold sumR; rw [if_neg (by simp [h2.1]; simp at h1; omega)]
  have hb := (sum_bound h2.1 l.length (Nat.le_refl _)).2
  rw [List.take_length] at hb
  refine ⟨by rw [e], by rw [e], by rw [h3, sumT_end], A3.amt_out h4, ?_⟩
  rw [e]
  simp at h1
  dsimp only
  omega

set_option maxHeartbeats 4000000 in
set_option maxRecDepth 20000 in
theorem RigSums_ok {I : Imm} {O : Own} {v : Value} {l : List Tsk} {tc : List Value} {t : Tsk} (hl : TsksR I v l) (ht : TskR I tc t) (hL : l.length * 128 ≤ 140737488351232) :
    Pure Try.prog 9 [v, .agg ⟨tc⟩] I O (.bool true) := by
  have hl0 := hl
  obtain ⟨la, lcap, rfl, hl1, hl2, -⟩ := hl
  have ht0 := ht
  obtain ⟨tw, tb, rfl, htw, htb⟩ := ht.ex
  have htw0 := htw
  obtain ⟨wa, wcap, rfl, hw1, hw2, -⟩ := htw
  have htb0 := htb
  obtain ⟨ba, bcap, rfl, hb1, hb2, -⟩ := htb
  obtain ⟨ws28, hs28, hd28⟩ := SlR.src (B := []) (fun _ _ h => TskR.len h) hl0
  refine Does.enter Try.func9 rfl Try.ntmps9 rfl ?_
  refine .seq <| .region <| .on rfl <| .box rfl rfl rfl fun c1 _ _ => .e (.assign rfl) rfl rfl <| .nil <| .go ?_
  refine .seq <| .seq <| .region <| .on rfl <| .callP cal16 rfl rfl rfl (rooms_ok) <| .e (.not rfl) rfl rfl <| .nil ?_
  refine .go <| .cond_false rfl <| .skip <| .go <| .seq <| .region ?_
  refine .on rfl <| .callP cal18 rfl rfl rfl (Sum_ok (l := []) SlR.nil) <| .e (.move rfl) rfl rfl <| .e (.extract rfl rfl) rfl rfl <| .e (.extract rfl rfl) rfl rfl <| .on rfl <| .alloc zr22 rfl fun c2 _ _ => .on rfl <| .storeW sz22 rfl rfl rfl rfl rfl rfl .here ?_
  refine .e (.assign rfl) rfl rfl <| .nil <| .go <| .seq <| .region <| .e (.move rfl) rfl rfl ?_
  refine .on rfl <| .callP cal18 rfl rfl rfl (Sum_ok hl0) <| .e (.move rfl) rfl rfl <| .e (.extract rfl rfl) rfl rfl <| .e (.extract rfl rfl) rfl rfl <| .on rfl <| .alloc zr22 rfl fun c3 _ _ => .on rfl <| .storeW sz22 rfl rfl rfl rfl rfl rfl .here ?_
  refine .e (.assign rfl) rfl rfl <| .nil <| .go ?_
  refine .meetO (σ := Imm × Nat) [9, 10, 25, 26, 27, 28, 29, 30, 31, 32, 33, 34] (fun s => I.le s.1) (fun s => [(9, .pointer (some ⟨s.2, 0, none⟩)), (10, .int .i64 (sumR (l ++ [t])).2)]) (fun s => s.1) (fun R s => (s.2, .cells ⟨[.int .i64 (sumR (l ++ [t])).1.a, .int .i64 (sumR (l ++ [t])).1.b, .int .i64 (sumR (l ++ [t])).1.c]⟩ 22 (0, 0)) :: R) ?_ ?_
  · skip
    refine .draw [(c1, _)] mixed (.cons (.there <| .there <| .here) .nil) ?_
    refine .t 1 rfl (.move rfl) rfl rfl (by kernel_rfl) <| .t 3 rfl (.loadW ag25 sz25 rfl .here rfl) rfl rfl (by kernel_rfl) ?_
    refine .all (rs := [0, 4, 10]) (by kernel_rfl) (by simp) ⟨⟨_, rfl, .inl ⟨rfl, ?_⟩⟩, ⟨⟨_, rfl, .inl ⟨rfl, ?_⟩⟩, ⟨⟨_, rfl, .inl ⟨rfl, ?_⟩⟩, trivial⟩⟩⟩
    · skip
      refine .buildSlice Try.underlying37 sz25 (by decide) (by decide) zv25 rfl rfl rfl rfl rfl fun c4 _ _ => ?_
      refine ⟨(.cons (.there <| .there <| .there <| .here) .nil), Imm.le_refl _, ?_⟩
      refine .all (rs := [2, 4, 10]) (by kernel_rfl) (by simp) ⟨⟨_, rfl, .inl ⟨rfl, ?_⟩⟩, ⟨⟨_, rfl, .inl ⟨rfl, ?_⟩⟩, ⟨⟨_, rfl, .inl ⟨rfl, ?_⟩⟩, trivial⟩⟩⟩
      · skip
        refine .append Try.underlying37 Try.underlying37 sz25 by25 zv25 rfl rfl rfl .here (OwnS.made rfl (by decide)) hs28.any hd28.1 (hd28.ones (by decide) fun _ _ h => TskR.ones h) (by omega) (by omega) rfl fun v28 ob28 ho28 => ?_
        refine ⟨(.cons (.app <| .there <| .there <| .here) .nil), Imm.le_refl _, ?_⟩
        refine .all (rs := [4, 10]) (by kernel_rfl) (by simp) ⟨⟨_, rfl, .inl ⟨rfl, ?_⟩⟩, ⟨⟨_, rfl, .inl ⟨rfl, ?_⟩⟩, trivial⟩⟩
        · skip
          refine .buildSlice Try.underlying37 sz25 (by decide) (by decide) zv25 rfl rfl rfl rfl rfl fun c5 _ _ => ?_
          refine ⟨(.cons (.there <| .app <| .there <| .there <| .here) .nil), Imm.le_refl _, ?_⟩
          refine .all (rs := [5, 10]) (by kernel_rfl) (by simp) ⟨⟨_, rfl, .inl ⟨rfl, ?_⟩⟩, ⟨⟨_, rfl, .inl ⟨rfl, ?_⟩⟩, trivial⟩⟩
          · skip
            refine .append Try.underlying37 Try.underlying37 sz25 by25 zv25 rfl rfl rfl (.there <| .front) ho28 ((OwnS.made (k := 9) rfl (by decide)).src (I := _) .here) rfl rfl (by omega) (by omega) rfl fun v31 ob31 ho31 => ?_
            refine ⟨(.cons (.app <| .there <| .there <| .there <| .here) .nil), Imm.le_refl _, ?_⟩
            refine .all (rs := [6, 10]) (by kernel_rfl) (by simp) ⟨⟨_, rfl, .inl ⟨rfl, ?_⟩⟩, ⟨⟨_, rfl, .inl ⟨rfl, ?_⟩⟩, trivial⟩⟩
            · skip
              refine .freezeS ho31 fun J hJ hJs => ?_
              have hy := hJs (R := TskR) (xs := l ++ [t]) (show DR TskR 9 J ([] ++ ws28 ++ t.cells (.slice wa t.wants.length wcap) (.slice ba t.bears.length bcap)) ([] ++ l ++ [t]) from (DR.nil.append (DR.mono (fun _ _ h => h.mono hJ) hd28)).append (DR.single rfl (ht0.mono hJ))) (by simp)
              refine .callP cal18 rfl rfl rfl (Sum_ok hy) ?_
              refine ⟨(.cons (.there <| .there <| .there <| .here) .nil), hJ, ?_⟩
              refine .t 7 rfl (.move rfl) rfl rfl (by kernel_rfl) <| .t 8 rfl (.extract rfl rfl) rfl rfl (by kernel_rfl) <| .t 9 rfl (.extract rfl rfl) rfl rfl (by kernel_rfl) <| .one (i := 10) (by kernel_rfl) rfl rfl <| .alloc zr22 rfl fun c6 _ _ => ?_
              refine ⟨(.cons (.there <| .there <| .there <| .there <| .here) .nil), hJ, ?_⟩
              refine .one (i := 11) (by kernel_rfl) rfl rfl <| .storeW sz22 rfl rfl rfl rfl rfl rfl .here ?_
              refine ⟨(.cons (.there <| .there <| .there <| .there <| .here) .nil), hJ, ?_⟩
              refine .t 12 rfl (.assign rfl) rfl rfl (by kernel_rfl) <| .done (by kernel_rfl) ?_
              refine .front (.there <| .here) ?_
              refine .tail ?_
              exact .mid ((J, c6)) hJ ⟨rfl, rfl, trivial⟩ rfl rfl (.pre 12 rfl .self)
            · skip
              refine .alloc zr22 rfl fun c7 _ _ => ?_
              refine ⟨(.cons (.there <| .app <| .there <| .there <| .there <| .here) .nil), Imm.le_refl _, ?_⟩
              refine .front (.there <| .front) ?_
              refine .freezeS ho31 fun J hJ hJs => ?_
              have hy := hJs (R := TskR) (xs := l ++ [t]) (show DR TskR 9 J ([] ++ ws28 ++ t.cells (.slice wa t.wants.length wcap) (.slice ba t.bears.length bcap)) ([] ++ l ++ [t]) from (DR.nil.append (DR.mono (fun _ _ h => h.mono hJ) hd28)).append (DR.single rfl (ht0.mono hJ))) (by simp)
              refine .one (i := 6) (by kernel_rfl) rfl rfl <| .callP cal18 rfl rfl rfl (Sum_ok hy) ?_
              refine ⟨(.cons (.there <| .there <| .there <| .there <| .here) .nil), hJ, ?_⟩
              refine .t 7 rfl (.move rfl) rfl rfl (by kernel_rfl) <| .t 8 rfl (.extract rfl rfl) rfl rfl (by kernel_rfl) <| .t 9 rfl (.extract rfl rfl) rfl rfl (by kernel_rfl) <| .one (i := 11) (by kernel_rfl) rfl rfl <| .storeW sz22 rfl rfl rfl rfl rfl rfl .here ?_
              refine ⟨(.cons (.there <| .there <| .there <| .there <| .here) .nil), hJ, ?_⟩
              refine .t 12 rfl (.assign rfl) rfl rfl (by kernel_rfl) <| .done (by kernel_rfl) ?_
              refine .front (.there <| .here) ?_
              refine .tail ?_
              exact .mid ((J, c7)) hJ ⟨rfl, rfl, trivial⟩ rfl rfl (.pre 12 rfl .self)
          · skip
            refine .alloc zr22 rfl fun c8 _ _ => ?_
            refine ⟨(.cons (.there <| .there <| .app <| .there <| .there <| .here) .nil), Imm.le_refl _, ?_⟩
            refine .one (i := 5) (by kernel_rfl) rfl rfl <| .append Try.underlying37 Try.underlying37 sz25 by25 zv25 rfl rfl rfl (.there <| .there <| .front) ho28 ((OwnS.made (k := 9) rfl (by decide)).src (I := _) (.there <| .here)) rfl rfl (by omega) (by omega) rfl fun v31 ob31 ho31 => ?_
            refine ⟨(.cons (.app <| .there <| .there <| .there <| .there <| .here) .nil), Imm.le_refl _, ?_⟩
            refine .freezeS ho31 fun J hJ hJs => ?_
            have hy := hJs (R := TskR) (xs := l ++ [t]) (show DR TskR 9 J ([] ++ ws28 ++ t.cells (.slice wa t.wants.length wcap) (.slice ba t.bears.length bcap)) ([] ++ l ++ [t]) from (DR.nil.append (DR.mono (fun _ _ h => h.mono hJ) hd28)).append (DR.single rfl (ht0.mono hJ))) (by simp)
            refine .one (i := 6) (by kernel_rfl) rfl rfl <| .callP cal18 rfl rfl rfl (Sum_ok hy) ?_
            refine ⟨(.cons (.there <| .there <| .there <| .there <| .here) .nil), hJ, ?_⟩
            refine .t 7 rfl (.move rfl) rfl rfl (by kernel_rfl) <| .t 8 rfl (.extract rfl rfl) rfl rfl (by kernel_rfl) <| .t 9 rfl (.extract rfl rfl) rfl rfl (by kernel_rfl) <| .one (i := 11) (by kernel_rfl) rfl rfl <| .storeW sz22 rfl rfl rfl rfl rfl rfl .here ?_
            refine ⟨(.cons (.there <| .there <| .there <| .there <| .here) .nil), hJ, ?_⟩
            refine .t 12 rfl (.assign rfl) rfl rfl (by kernel_rfl) <| .done (by kernel_rfl) ?_
            refine .front (.there <| .here) ?_
            refine .tail ?_
            exact .mid ((J, c8)) hJ ⟨rfl, rfl, trivial⟩ rfl rfl (.pre 12 rfl .self)
        · skip
          refine .alloc zr22 rfl fun c9 _ _ => ?_
          refine ⟨(.cons (.there <| .app <| .there <| .there <| .here) .nil), Imm.le_refl _, ?_⟩
          refine .one (i := 4) (by kernel_rfl) rfl rfl <| .buildSlice Try.underlying37 sz25 (by decide) (by decide) zv25 rfl rfl rfl rfl rfl fun c10 _ _ => ?_
          refine ⟨(.cons (.there <| .there <| .app <| .there <| .there <| .here) .nil), Imm.le_refl _, ?_⟩
          refine .one (i := 5) (by kernel_rfl) rfl rfl <| .append Try.underlying37 Try.underlying37 sz25 by25 zv25 rfl rfl rfl (.there <| .there <| .front) ho28 ((OwnS.made (k := 9) rfl (by decide)).src (I := _) .here) rfl rfl (by omega) (by omega) rfl fun v31 ob31 ho31 => ?_
          refine ⟨(.cons (.app <| .there <| .there <| .there <| .there <| .here) .nil), Imm.le_refl _, ?_⟩
          refine .freezeS ho31 fun J hJ hJs => ?_
          have hy := hJs (R := TskR) (xs := l ++ [t]) (show DR TskR 9 J ([] ++ ws28 ++ t.cells (.slice wa t.wants.length wcap) (.slice ba t.bears.length bcap)) ([] ++ l ++ [t]) from (DR.nil.append (DR.mono (fun _ _ h => h.mono hJ) hd28)).append (DR.single rfl (ht0.mono hJ))) (by simp)
          refine .one (i := 6) (by kernel_rfl) rfl rfl <| .callP cal18 rfl rfl rfl (Sum_ok hy) ?_
          refine ⟨(.cons (.there <| .there <| .there <| .there <| .here) .nil), hJ, ?_⟩
          refine .t 7 rfl (.move rfl) rfl rfl (by kernel_rfl) <| .t 8 rfl (.extract rfl rfl) rfl rfl (by kernel_rfl) <| .t 9 rfl (.extract rfl rfl) rfl rfl (by kernel_rfl) <| .one (i := 11) (by kernel_rfl) rfl rfl <| .storeW sz22 rfl rfl rfl rfl rfl rfl (.there <| .here) ?_
          refine ⟨(.cons (.there <| .there <| .there <| .there <| .here) .nil), hJ, ?_⟩
          refine .t 12 rfl (.assign rfl) rfl rfl (by kernel_rfl) <| .done (by kernel_rfl) ?_
          refine .tail ?_
          exact .mid ((J, c9)) hJ ⟨rfl, rfl, trivial⟩ rfl rfl (.pre 12 rfl .self)
      · skip
        refine .buildSlice Try.underlying37 sz25 (by decide) (by decide) zv25 rfl rfl rfl rfl rfl fun c11 _ _ => ?_
        refine ⟨(.cons (.there <| .there <| .there <| .there <| .here) .nil), Imm.le_refl _, ?_⟩
        refine .all (rs := [2, 10]) (by kernel_rfl) (by simp) ⟨⟨_, rfl, .inl ⟨rfl, ?_⟩⟩, ⟨⟨_, rfl, .inl ⟨rfl, ?_⟩⟩, trivial⟩⟩
        · skip
          refine .append Try.underlying37 Try.underlying37 sz25 by25 zv25 rfl rfl rfl (.there <| .here) (OwnS.made rfl (by decide)) hs28.any hd28.1 (hd28.ones (by decide) fun _ _ h => TskR.ones h) (by omega) (by omega) rfl fun v28 ob28 ho28 => ?_
          refine ⟨(.cons (.app <| .there <| .there <| .there <| .here) .nil), Imm.le_refl _, ?_⟩
          refine .all (rs := [5, 10]) (by kernel_rfl) (by simp) ⟨⟨_, rfl, .inl ⟨rfl, ?_⟩⟩, ⟨⟨_, rfl, .inl ⟨rfl, ?_⟩⟩, trivial⟩⟩
          · skip
            refine .append Try.underlying37 Try.underlying37 sz25 by25 zv25 rfl rfl rfl .front ho28 ((OwnS.made (k := 9) rfl (by decide)).src (I := _) (.app <| .here)) rfl rfl (by omega) (by omega) rfl fun v31 ob31 ho31 => ?_
            refine ⟨(.cons (.app <| .there <| .there <| .there <| .here) .nil), Imm.le_refl _, ?_⟩
            refine .all (rs := [6, 10]) (by kernel_rfl) (by simp) ⟨⟨_, rfl, .inl ⟨rfl, ?_⟩⟩, ⟨⟨_, rfl, .inl ⟨rfl, ?_⟩⟩, trivial⟩⟩
            · skip
              refine .freezeS ho31 fun J hJ hJs => ?_
              have hy := hJs (R := TskR) (xs := l ++ [t]) (show DR TskR 9 J ([] ++ ws28 ++ t.cells (.slice wa t.wants.length wcap) (.slice ba t.bears.length bcap)) ([] ++ l ++ [t]) from (DR.nil.append (DR.mono (fun _ _ h => h.mono hJ) hd28)).append (DR.single rfl (ht0.mono hJ))) (by simp)
              refine .callP cal18 rfl rfl rfl (Sum_ok hy) ?_
              refine ⟨(.cons (.there <| .there <| .there <| .here) .nil), hJ, ?_⟩
              refine .t 7 rfl (.move rfl) rfl rfl (by kernel_rfl) <| .t 8 rfl (.extract rfl rfl) rfl rfl (by kernel_rfl) <| .t 9 rfl (.extract rfl rfl) rfl rfl (by kernel_rfl) <| .one (i := 10) (by kernel_rfl) rfl rfl <| .alloc zr22 rfl fun c12 _ _ => ?_
              refine ⟨(.cons (.there <| .there <| .there <| .there <| .here) .nil), hJ, ?_⟩
              refine .one (i := 11) (by kernel_rfl) rfl rfl <| .storeW sz22 rfl rfl rfl rfl rfl rfl .here ?_
              refine ⟨(.cons (.there <| .there <| .there <| .there <| .here) .nil), hJ, ?_⟩
              refine .t 12 rfl (.assign rfl) rfl rfl (by kernel_rfl) <| .done (by kernel_rfl) ?_
              refine .front (.there <| .here) ?_
              refine .tail ?_
              exact .mid ((J, c12)) hJ ⟨rfl, rfl, trivial⟩ rfl rfl (.pre 12 rfl .self)
            · skip
              refine .alloc zr22 rfl fun c13 _ _ => ?_
              refine ⟨(.cons (.there <| .app <| .there <| .there <| .there <| .here) .nil), Imm.le_refl _, ?_⟩
              refine .front (.there <| .front) ?_
              refine .freezeS ho31 fun J hJ hJs => ?_
              have hy := hJs (R := TskR) (xs := l ++ [t]) (show DR TskR 9 J ([] ++ ws28 ++ t.cells (.slice wa t.wants.length wcap) (.slice ba t.bears.length bcap)) ([] ++ l ++ [t]) from (DR.nil.append (DR.mono (fun _ _ h => h.mono hJ) hd28)).append (DR.single rfl (ht0.mono hJ))) (by simp)
              refine .one (i := 6) (by kernel_rfl) rfl rfl <| .callP cal18 rfl rfl rfl (Sum_ok hy) ?_
              refine ⟨(.cons (.there <| .there <| .there <| .there <| .here) .nil), hJ, ?_⟩
              refine .t 7 rfl (.move rfl) rfl rfl (by kernel_rfl) <| .t 8 rfl (.extract rfl rfl) rfl rfl (by kernel_rfl) <| .t 9 rfl (.extract rfl rfl) rfl rfl (by kernel_rfl) <| .one (i := 11) (by kernel_rfl) rfl rfl <| .storeW sz22 rfl rfl rfl rfl rfl rfl .here ?_
              refine ⟨(.cons (.there <| .there <| .there <| .there <| .here) .nil), hJ, ?_⟩
              refine .t 12 rfl (.assign rfl) rfl rfl (by kernel_rfl) <| .done (by kernel_rfl) ?_
              refine .front (.there <| .here) ?_
              refine .tail ?_
              exact .mid ((J, c13)) hJ ⟨rfl, rfl, trivial⟩ rfl rfl (.pre 12 rfl .self)
          · skip
            refine .alloc zr22 rfl fun c14 _ _ => ?_
            refine ⟨(.cons (.there <| .app <| .there <| .there <| .there <| .here) .nil), Imm.le_refl _, ?_⟩
            refine .one (i := 5) (by kernel_rfl) rfl rfl <| .append Try.underlying37 Try.underlying37 sz25 by25 zv25 rfl rfl rfl (.there <| .front) ho28 ((OwnS.made (k := 9) rfl (by decide)).src (I := _) (.there <| .app <| .here)) rfl rfl (by omega) (by omega) rfl fun v31 ob31 ho31 => ?_
            refine ⟨(.cons (.app <| .there <| .there <| .there <| .there <| .here) .nil), Imm.le_refl _, ?_⟩
            refine .freezeS ho31 fun J hJ hJs => ?_
            have hy := hJs (R := TskR) (xs := l ++ [t]) (show DR TskR 9 J ([] ++ ws28 ++ t.cells (.slice wa t.wants.length wcap) (.slice ba t.bears.length bcap)) ([] ++ l ++ [t]) from (DR.nil.append (DR.mono (fun _ _ h => h.mono hJ) hd28)).append (DR.single rfl (ht0.mono hJ))) (by simp)
            refine .one (i := 6) (by kernel_rfl) rfl rfl <| .callP cal18 rfl rfl rfl (Sum_ok hy) ?_
            refine ⟨(.cons (.there <| .there <| .there <| .there <| .here) .nil), hJ, ?_⟩
            refine .t 7 rfl (.move rfl) rfl rfl (by kernel_rfl) <| .t 8 rfl (.extract rfl rfl) rfl rfl (by kernel_rfl) <| .t 9 rfl (.extract rfl rfl) rfl rfl (by kernel_rfl) <| .one (i := 11) (by kernel_rfl) rfl rfl <| .storeW sz22 rfl rfl rfl rfl rfl rfl .here ?_
            refine ⟨(.cons (.there <| .there <| .there <| .there <| .here) .nil), hJ, ?_⟩
            refine .t 12 rfl (.assign rfl) rfl rfl (by kernel_rfl) <| .done (by kernel_rfl) ?_
            refine .front (.there <| .here) ?_
            refine .tail ?_
            exact .mid ((J, c14)) hJ ⟨rfl, rfl, trivial⟩ rfl rfl (.pre 12 rfl .self)
        · skip
          refine .alloc zr22 rfl fun c15 _ _ => ?_
          refine ⟨(.cons (.there <| .there <| .there <| .there <| .there <| .here) .nil), Imm.le_refl _, ?_⟩
          refine .one (i := 2) (by kernel_rfl) rfl rfl <| .append Try.underlying37 Try.underlying37 sz25 by25 zv25 rfl rfl rfl (.there <| .there <| .here) (OwnS.made rfl (by decide)) hs28.any hd28.1 (hd28.ones (by decide) fun _ _ h => TskR.ones h) (by omega) (by omega) rfl fun v28 ob28 ho28 => ?_
          refine ⟨(.cons (.app <| .there <| .there <| .there <| .there <| .here) .nil), Imm.le_refl _, ?_⟩
          refine .one (i := 5) (by kernel_rfl) rfl rfl <| .append Try.underlying37 Try.underlying37 sz25 by25 zv25 rfl rfl rfl .front ho28 ((OwnS.made (k := 9) rfl (by decide)).src (I := _) (.app <| .there <| .here)) rfl rfl (by omega) (by omega) rfl fun v31 ob31 ho31 => ?_
          refine ⟨(.cons (.app <| .there <| .there <| .there <| .there <| .here) .nil), Imm.le_refl _, ?_⟩
          refine .freezeS ho31 fun J hJ hJs => ?_
          have hy := hJs (R := TskR) (xs := l ++ [t]) (show DR TskR 9 J ([] ++ ws28 ++ t.cells (.slice wa t.wants.length wcap) (.slice ba t.bears.length bcap)) ([] ++ l ++ [t]) from (DR.nil.append (DR.mono (fun _ _ h => h.mono hJ) hd28)).append (DR.single rfl (ht0.mono hJ))) (by simp)
          refine .one (i := 6) (by kernel_rfl) rfl rfl <| .callP cal18 rfl rfl rfl (Sum_ok hy) ?_
          refine ⟨(.cons (.there <| .there <| .there <| .there <| .here) .nil), hJ, ?_⟩
          refine .t 7 rfl (.move rfl) rfl rfl (by kernel_rfl) <| .t 8 rfl (.extract rfl rfl) rfl rfl (by kernel_rfl) <| .t 9 rfl (.extract rfl rfl) rfl rfl (by kernel_rfl) <| .one (i := 11) (by kernel_rfl) rfl rfl <| .storeW sz22 rfl rfl rfl rfl rfl rfl .here ?_
          refine ⟨(.cons (.there <| .there <| .there <| .there <| .here) .nil), hJ, ?_⟩
          refine .t 12 rfl (.assign rfl) rfl rfl (by kernel_rfl) <| .done (by kernel_rfl) ?_
          refine .front (.there <| .here) ?_
          refine .tail ?_
          exact .mid ((J, c15)) hJ ⟨rfl, rfl, trivial⟩ rfl rfl (.pre 12 rfl .self)
      · skip
        refine .alloc zr22 rfl fun c16 _ _ => ?_
        refine ⟨(.cons (.there <| .there <| .there <| .there <| .here) .nil), Imm.le_refl _, ?_⟩
        refine .all (rs := [2, 4]) (by kernel_rfl) (by simp) ⟨⟨_, rfl, .inl ⟨rfl, ?_⟩⟩, ⟨⟨_, rfl, .inl ⟨rfl, ?_⟩⟩, trivial⟩⟩
        · skip
          refine .append Try.underlying37 Try.underlying37 sz25 by25 zv25 rfl rfl rfl (.there <| .here) (OwnS.made rfl (by decide)) hs28.any hd28.1 (hd28.ones (by decide) fun _ _ h => TskR.ones h) (by omega) (by omega) rfl fun v28 ob28 ho28 => ?_
          refine ⟨(.cons (.app <| .there <| .there <| .there <| .here) .nil), Imm.le_refl _, ?_⟩
          refine .one (i := 4) (by kernel_rfl) rfl rfl <| .buildSlice Try.underlying37 sz25 (by decide) (by decide) zv25 rfl rfl rfl rfl rfl fun c17 _ _ => ?_
          refine ⟨(.cons (.there <| .app <| .there <| .there <| .there <| .here) .nil), Imm.le_refl _, ?_⟩
          refine .one (i := 5) (by kernel_rfl) rfl rfl <| .append Try.underlying37 Try.underlying37 sz25 by25 zv25 rfl rfl rfl (.there <| .front) ho28 ((OwnS.made (k := 9) rfl (by decide)).src (I := _) .here) rfl rfl (by omega) (by omega) rfl fun v31 ob31 ho31 => ?_
          refine ⟨(.cons (.app <| .there <| .there <| .there <| .there <| .here) .nil), Imm.le_refl _, ?_⟩
          refine .freezeS ho31 fun J hJ hJs => ?_
          have hy := hJs (R := TskR) (xs := l ++ [t]) (show DR TskR 9 J ([] ++ ws28 ++ t.cells (.slice wa t.wants.length wcap) (.slice ba t.bears.length bcap)) ([] ++ l ++ [t]) from (DR.nil.append (DR.mono (fun _ _ h => h.mono hJ) hd28)).append (DR.single rfl (ht0.mono hJ))) (by simp)
          refine .one (i := 6) (by kernel_rfl) rfl rfl <| .callP cal18 rfl rfl rfl (Sum_ok hy) ?_
          refine ⟨(.cons (.there <| .there <| .there <| .there <| .here) .nil), hJ, ?_⟩
          refine .t 7 rfl (.move rfl) rfl rfl (by kernel_rfl) <| .t 8 rfl (.extract rfl rfl) rfl rfl (by kernel_rfl) <| .t 9 rfl (.extract rfl rfl) rfl rfl (by kernel_rfl) <| .one (i := 11) (by kernel_rfl) rfl rfl <| .storeW sz22 rfl rfl rfl rfl rfl rfl (.there <| .here) ?_
          refine ⟨(.cons (.there <| .there <| .there <| .there <| .here) .nil), hJ, ?_⟩
          refine .t 12 rfl (.assign rfl) rfl rfl (by kernel_rfl) <| .done (by kernel_rfl) ?_
          refine .tail ?_
          exact .mid ((J, c16)) hJ ⟨rfl, rfl, trivial⟩ rfl rfl (.pre 12 rfl .self)
        · skip
          refine .buildSlice Try.underlying37 sz25 (by decide) (by decide) zv25 rfl rfl rfl rfl rfl fun c18 _ _ => ?_
          refine ⟨(.cons (.there <| .there <| .there <| .there <| .there <| .here) .nil), Imm.le_refl _, ?_⟩
          refine .one (i := 2) (by kernel_rfl) rfl rfl <| .append Try.underlying37 Try.underlying37 sz25 by25 zv25 rfl rfl rfl (.there <| .there <| .here) (OwnS.made rfl (by decide)) hs28.any hd28.1 (hd28.ones (by decide) fun _ _ h => TskR.ones h) (by omega) (by omega) rfl fun v28 ob28 ho28 => ?_
          refine ⟨(.cons (.app <| .there <| .there <| .there <| .there <| .here) .nil), Imm.le_refl _, ?_⟩
          refine .one (i := 5) (by kernel_rfl) rfl rfl <| .append Try.underlying37 Try.underlying37 sz25 by25 zv25 rfl rfl rfl .front ho28 ((OwnS.made (k := 9) rfl (by decide)).src (I := _) (.app <| .here)) rfl rfl (by omega) (by omega) rfl fun v31 ob31 ho31 => ?_
          refine ⟨(.cons (.app <| .there <| .there <| .there <| .there <| .here) .nil), Imm.le_refl _, ?_⟩
          refine .freezeS ho31 fun J hJ hJs => ?_
          have hy := hJs (R := TskR) (xs := l ++ [t]) (show DR TskR 9 J ([] ++ ws28 ++ t.cells (.slice wa t.wants.length wcap) (.slice ba t.bears.length bcap)) ([] ++ l ++ [t]) from (DR.nil.append (DR.mono (fun _ _ h => h.mono hJ) hd28)).append (DR.single rfl (ht0.mono hJ))) (by simp)
          refine .one (i := 6) (by kernel_rfl) rfl rfl <| .callP cal18 rfl rfl rfl (Sum_ok hy) ?_
          refine ⟨(.cons (.there <| .there <| .there <| .there <| .here) .nil), hJ, ?_⟩
          refine .t 7 rfl (.move rfl) rfl rfl (by kernel_rfl) <| .t 8 rfl (.extract rfl rfl) rfl rfl (by kernel_rfl) <| .t 9 rfl (.extract rfl rfl) rfl rfl (by kernel_rfl) <| .one (i := 11) (by kernel_rfl) rfl rfl <| .storeW sz22 rfl rfl rfl rfl rfl rfl (.there <| .here) ?_
          refine ⟨(.cons (.there <| .there <| .there <| .there <| .here) .nil), hJ, ?_⟩
          refine .t 12 rfl (.assign rfl) rfl rfl (by kernel_rfl) <| .done (by kernel_rfl) ?_
          refine .tail ?_
          exact .mid ((J, c16)) hJ ⟨rfl, rfl, trivial⟩ rfl rfl (.pre 12 rfl .self)
    · skip
      refine .buildSlice Try.underlying37 sz25 (by decide) (by decide) zv25 rfl rfl rfl rfl rfl fun c19 _ _ => ?_
      refine ⟨(.cons (.there <| .there <| .there <| .here) .nil), Imm.le_refl _, ?_⟩
      refine .all (rs := [0, 10]) (by kernel_rfl) (by simp) ⟨⟨_, rfl, .inl ⟨rfl, ?_⟩⟩, ⟨⟨_, rfl, .inl ⟨rfl, ?_⟩⟩, trivial⟩⟩
      · skip
        refine .buildSlice Try.underlying37 sz25 (by decide) (by decide) zv25 rfl rfl rfl rfl rfl fun c20 _ _ => ?_
        refine ⟨(.cons (.there <| .there <| .there <| .there <| .here) .nil), Imm.le_refl _, ?_⟩
        refine .all (rs := [2, 10]) (by kernel_rfl) (by simp) ⟨⟨_, rfl, .inl ⟨rfl, ?_⟩⟩, ⟨⟨_, rfl, .inl ⟨rfl, ?_⟩⟩, trivial⟩⟩
        · skip
          refine .append Try.underlying37 Try.underlying37 sz25 by25 zv25 rfl rfl rfl .here (OwnS.made rfl (by decide)) hs28.any hd28.1 (hd28.ones (by decide) fun _ _ h => TskR.ones h) (by omega) (by omega) rfl fun v28 ob28 ho28 => ?_
          refine ⟨(.cons (.app <| .there <| .there <| .there <| .here) .nil), Imm.le_refl _, ?_⟩
          refine .all (rs := [5, 10]) (by kernel_rfl) (by simp) ⟨⟨_, rfl, .inl ⟨rfl, ?_⟩⟩, ⟨⟨_, rfl, .inl ⟨rfl, ?_⟩⟩, trivial⟩⟩
          · skip
            refine .append Try.underlying37 Try.underlying37 sz25 by25 zv25 rfl rfl rfl .front ho28 ((OwnS.made (k := 9) rfl (by decide)).src (I := _) (.app <| .here)) rfl rfl (by omega) (by omega) rfl fun v31 ob31 ho31 => ?_
            refine ⟨(.cons (.app <| .there <| .there <| .there <| .here) .nil), Imm.le_refl _, ?_⟩
            refine .all (rs := [6, 10]) (by kernel_rfl) (by simp) ⟨⟨_, rfl, .inl ⟨rfl, ?_⟩⟩, ⟨⟨_, rfl, .inl ⟨rfl, ?_⟩⟩, trivial⟩⟩
            · skip
              refine .freezeS ho31 fun J hJ hJs => ?_
              have hy := hJs (R := TskR) (xs := l ++ [t]) (show DR TskR 9 J ([] ++ ws28 ++ t.cells (.slice wa t.wants.length wcap) (.slice ba t.bears.length bcap)) ([] ++ l ++ [t]) from (DR.nil.append (DR.mono (fun _ _ h => h.mono hJ) hd28)).append (DR.single rfl (ht0.mono hJ))) (by simp)
              refine .callP cal18 rfl rfl rfl (Sum_ok hy) ?_
              refine ⟨(.cons (.there <| .there <| .there <| .here) .nil), hJ, ?_⟩
              refine .t 7 rfl (.move rfl) rfl rfl (by kernel_rfl) <| .t 8 rfl (.extract rfl rfl) rfl rfl (by kernel_rfl) <| .t 9 rfl (.extract rfl rfl) rfl rfl (by kernel_rfl) <| .one (i := 10) (by kernel_rfl) rfl rfl <| .alloc zr22 rfl fun c21 _ _ => ?_
              refine ⟨(.cons (.there <| .there <| .there <| .there <| .here) .nil), hJ, ?_⟩
              refine .one (i := 11) (by kernel_rfl) rfl rfl <| .storeW sz22 rfl rfl rfl rfl rfl rfl .here ?_
              refine ⟨(.cons (.there <| .there <| .there <| .there <| .here) .nil), hJ, ?_⟩
              refine .t 12 rfl (.assign rfl) rfl rfl (by kernel_rfl) <| .done (by kernel_rfl) ?_
              refine .front (.there <| .here) ?_
              refine .tail ?_
              exact .mid ((J, c21)) hJ ⟨rfl, rfl, trivial⟩ rfl rfl (.pre 12 rfl .self)
            · skip
              refine .alloc zr22 rfl fun c22 _ _ => ?_
              refine ⟨(.cons (.there <| .app <| .there <| .there <| .there <| .here) .nil), Imm.le_refl _, ?_⟩
              refine .front (.there <| .front) ?_
              refine .freezeS ho31 fun J hJ hJs => ?_
              have hy := hJs (R := TskR) (xs := l ++ [t]) (show DR TskR 9 J ([] ++ ws28 ++ t.cells (.slice wa t.wants.length wcap) (.slice ba t.bears.length bcap)) ([] ++ l ++ [t]) from (DR.nil.append (DR.mono (fun _ _ h => h.mono hJ) hd28)).append (DR.single rfl (ht0.mono hJ))) (by simp)
              refine .one (i := 6) (by kernel_rfl) rfl rfl <| .callP cal18 rfl rfl rfl (Sum_ok hy) ?_
              refine ⟨(.cons (.there <| .there <| .there <| .there <| .here) .nil), hJ, ?_⟩
              refine .t 7 rfl (.move rfl) rfl rfl (by kernel_rfl) <| .t 8 rfl (.extract rfl rfl) rfl rfl (by kernel_rfl) <| .t 9 rfl (.extract rfl rfl) rfl rfl (by kernel_rfl) <| .one (i := 11) (by kernel_rfl) rfl rfl <| .storeW sz22 rfl rfl rfl rfl rfl rfl .here ?_
              refine ⟨(.cons (.there <| .there <| .there <| .there <| .here) .nil), hJ, ?_⟩
              refine .t 12 rfl (.assign rfl) rfl rfl (by kernel_rfl) <| .done (by kernel_rfl) ?_
              refine .front (.there <| .here) ?_
              refine .tail ?_
              exact .mid ((J, c22)) hJ ⟨rfl, rfl, trivial⟩ rfl rfl (.pre 12 rfl .self)
          · skip
            refine .alloc zr22 rfl fun c23 _ _ => ?_
            refine ⟨(.cons (.there <| .app <| .there <| .there <| .there <| .here) .nil), Imm.le_refl _, ?_⟩
            refine .one (i := 5) (by kernel_rfl) rfl rfl <| .append Try.underlying37 Try.underlying37 sz25 by25 zv25 rfl rfl rfl (.there <| .front) ho28 ((OwnS.made (k := 9) rfl (by decide)).src (I := _) (.there <| .app <| .here)) rfl rfl (by omega) (by omega) rfl fun v31 ob31 ho31 => ?_
            refine ⟨(.cons (.app <| .there <| .there <| .there <| .there <| .here) .nil), Imm.le_refl _, ?_⟩
            refine .freezeS ho31 fun J hJ hJs => ?_
            have hy := hJs (R := TskR) (xs := l ++ [t]) (show DR TskR 9 J ([] ++ ws28 ++ t.cells (.slice wa t.wants.length wcap) (.slice ba t.bears.length bcap)) ([] ++ l ++ [t]) from (DR.nil.append (DR.mono (fun _ _ h => h.mono hJ) hd28)).append (DR.single rfl (ht0.mono hJ))) (by simp)
            refine .one (i := 6) (by kernel_rfl) rfl rfl <| .callP cal18 rfl rfl rfl (Sum_ok hy) ?_
            refine ⟨(.cons (.there <| .there <| .there <| .there <| .here) .nil), hJ, ?_⟩
            refine .t 7 rfl (.move rfl) rfl rfl (by kernel_rfl) <| .t 8 rfl (.extract rfl rfl) rfl rfl (by kernel_rfl) <| .t 9 rfl (.extract rfl rfl) rfl rfl (by kernel_rfl) <| .one (i := 11) (by kernel_rfl) rfl rfl <| .storeW sz22 rfl rfl rfl rfl rfl rfl .here ?_
            refine ⟨(.cons (.there <| .there <| .there <| .there <| .here) .nil), hJ, ?_⟩
            refine .t 12 rfl (.assign rfl) rfl rfl (by kernel_rfl) <| .done (by kernel_rfl) ?_
            refine .front (.there <| .here) ?_
            refine .tail ?_
            exact .mid ((J, c23)) hJ ⟨rfl, rfl, trivial⟩ rfl rfl (.pre 12 rfl .self)
        · skip
          refine .alloc zr22 rfl fun c24 _ _ => ?_
          refine ⟨(.cons (.there <| .there <| .there <| .there <| .there <| .here) .nil), Imm.le_refl _, ?_⟩
          refine .one (i := 2) (by kernel_rfl) rfl rfl <| .append Try.underlying37 Try.underlying37 sz25 by25 zv25 rfl rfl rfl (.there <| .here) (OwnS.made rfl (by decide)) hs28.any hd28.1 (hd28.ones (by decide) fun _ _ h => TskR.ones h) (by omega) (by omega) rfl fun v28 ob28 ho28 => ?_
          refine ⟨(.cons (.app <| .there <| .there <| .there <| .there <| .here) .nil), Imm.le_refl _, ?_⟩
          refine .one (i := 5) (by kernel_rfl) rfl rfl <| .append Try.underlying37 Try.underlying37 sz25 by25 zv25 rfl rfl rfl .front ho28 ((OwnS.made (k := 9) rfl (by decide)).src (I := _) (.app <| .there <| .here)) rfl rfl (by omega) (by omega) rfl fun v31 ob31 ho31 => ?_
          refine ⟨(.cons (.app <| .there <| .there <| .there <| .there <| .here) .nil), Imm.le_refl _, ?_⟩
          refine .freezeS ho31 fun J hJ hJs => ?_
          have hy := hJs (R := TskR) (xs := l ++ [t]) (show DR TskR 9 J ([] ++ ws28 ++ t.cells (.slice wa t.wants.length wcap) (.slice ba t.bears.length bcap)) ([] ++ l ++ [t]) from (DR.nil.append (DR.mono (fun _ _ h => h.mono hJ) hd28)).append (DR.single rfl (ht0.mono hJ))) (by simp)
          refine .one (i := 6) (by kernel_rfl) rfl rfl <| .callP cal18 rfl rfl rfl (Sum_ok hy) ?_
          refine ⟨(.cons (.there <| .there <| .there <| .there <| .here) .nil), hJ, ?_⟩
          refine .t 7 rfl (.move rfl) rfl rfl (by kernel_rfl) <| .t 8 rfl (.extract rfl rfl) rfl rfl (by kernel_rfl) <| .t 9 rfl (.extract rfl rfl) rfl rfl (by kernel_rfl) <| .one (i := 11) (by kernel_rfl) rfl rfl <| .storeW sz22 rfl rfl rfl rfl rfl rfl .here ?_
          refine ⟨(.cons (.there <| .there <| .there <| .there <| .here) .nil), hJ, ?_⟩
          refine .t 12 rfl (.assign rfl) rfl rfl (by kernel_rfl) <| .done (by kernel_rfl) ?_
          refine .front (.there <| .here) ?_
          refine .tail ?_
          exact .mid ((J, c24)) hJ ⟨rfl, rfl, trivial⟩ rfl rfl (.pre 12 rfl .self)
      · skip
        refine .alloc zr22 rfl fun c25 _ _ => ?_
        refine ⟨(.cons (.there <| .there <| .there <| .there <| .here) .nil), Imm.le_refl _, ?_⟩
        refine .one (i := 0) (by kernel_rfl) rfl rfl <| .buildSlice Try.underlying37 sz25 (by decide) (by decide) zv25 rfl rfl rfl rfl rfl fun c26 _ _ => ?_
        refine ⟨(.cons (.there <| .there <| .there <| .there <| .there <| .here) .nil), Imm.le_refl _, ?_⟩
        refine .one (i := 2) (by kernel_rfl) rfl rfl <| .append Try.underlying37 Try.underlying37 sz25 by25 zv25 rfl rfl rfl .here (OwnS.made rfl (by decide)) hs28.any hd28.1 (hd28.ones (by decide) fun _ _ h => TskR.ones h) (by omega) (by omega) rfl fun v28 ob28 ho28 => ?_
        refine ⟨(.cons (.app <| .there <| .there <| .there <| .there <| .here) .nil), Imm.le_refl _, ?_⟩
        refine .one (i := 5) (by kernel_rfl) rfl rfl <| .append Try.underlying37 Try.underlying37 sz25 by25 zv25 rfl rfl rfl .front ho28 ((OwnS.made (k := 9) rfl (by decide)).src (I := _) (.app <| .there <| .here)) rfl rfl (by omega) (by omega) rfl fun v31 ob31 ho31 => ?_
        refine ⟨(.cons (.app <| .there <| .there <| .there <| .there <| .here) .nil), Imm.le_refl _, ?_⟩
        refine .freezeS ho31 fun J hJ hJs => ?_
        have hy := hJs (R := TskR) (xs := l ++ [t]) (show DR TskR 9 J ([] ++ ws28 ++ t.cells (.slice wa t.wants.length wcap) (.slice ba t.bears.length bcap)) ([] ++ l ++ [t]) from (DR.nil.append (DR.mono (fun _ _ h => h.mono hJ) hd28)).append (DR.single rfl (ht0.mono hJ))) (by simp)
        refine .one (i := 6) (by kernel_rfl) rfl rfl <| .callP cal18 rfl rfl rfl (Sum_ok hy) ?_
        refine ⟨(.cons (.there <| .there <| .there <| .there <| .here) .nil), hJ, ?_⟩
        refine .t 7 rfl (.move rfl) rfl rfl (by kernel_rfl) <| .t 8 rfl (.extract rfl rfl) rfl rfl (by kernel_rfl) <| .t 9 rfl (.extract rfl rfl) rfl rfl (by kernel_rfl) <| .one (i := 11) (by kernel_rfl) rfl rfl <| .storeW sz22 rfl rfl rfl rfl rfl rfl .here ?_
        refine ⟨(.cons (.there <| .there <| .there <| .there <| .here) .nil), hJ, ?_⟩
        refine .t 12 rfl (.assign rfl) rfl rfl (by kernel_rfl) <| .done (by kernel_rfl) ?_
        refine .front (.there <| .here) ?_
        refine .tail ?_
        exact .mid ((J, c25)) hJ ⟨rfl, rfl, trivial⟩ rfl rfl (.pre 12 rfl .self)
    · skip
      refine .alloc zr22 rfl fun c27 _ _ => ?_
      refine ⟨(.cons (.there <| .there <| .there <| .here) .nil), Imm.le_refl _, ?_⟩
      refine .all (rs := [0, 4]) (by kernel_rfl) (by simp) ⟨⟨_, rfl, .inl ⟨rfl, ?_⟩⟩, ⟨⟨_, rfl, .inl ⟨rfl, ?_⟩⟩, trivial⟩⟩
      · skip
        refine .buildSlice Try.underlying37 sz25 (by decide) (by decide) zv25 rfl rfl rfl rfl rfl fun c28 _ _ => ?_
        refine ⟨(.cons (.there <| .there <| .there <| .there <| .here) .nil), Imm.le_refl _, ?_⟩
        refine .all (rs := [2, 4]) (by kernel_rfl) (by simp) ⟨⟨_, rfl, .inl ⟨rfl, ?_⟩⟩, ⟨⟨_, rfl, .inl ⟨rfl, ?_⟩⟩, trivial⟩⟩
        · skip
          refine .append Try.underlying37 Try.underlying37 sz25 by25 zv25 rfl rfl rfl .here (OwnS.made rfl (by decide)) hs28.any hd28.1 (hd28.ones (by decide) fun _ _ h => TskR.ones h) (by omega) (by omega) rfl fun v28 ob28 ho28 => ?_
          refine ⟨(.cons (.app <| .there <| .there <| .there <| .here) .nil), Imm.le_refl _, ?_⟩
          refine .one (i := 4) (by kernel_rfl) rfl rfl <| .buildSlice Try.underlying37 sz25 (by decide) (by decide) zv25 rfl rfl rfl rfl rfl fun c29 _ _ => ?_
          refine ⟨(.cons (.there <| .app <| .there <| .there <| .there <| .here) .nil), Imm.le_refl _, ?_⟩
          refine .one (i := 5) (by kernel_rfl) rfl rfl <| .append Try.underlying37 Try.underlying37 sz25 by25 zv25 rfl rfl rfl (.there <| .front) ho28 ((OwnS.made (k := 9) rfl (by decide)).src (I := _) .here) rfl rfl (by omega) (by omega) rfl fun v31 ob31 ho31 => ?_
          refine ⟨(.cons (.app <| .there <| .there <| .there <| .there <| .here) .nil), Imm.le_refl _, ?_⟩
          refine .freezeS ho31 fun J hJ hJs => ?_
          have hy := hJs (R := TskR) (xs := l ++ [t]) (show DR TskR 9 J ([] ++ ws28 ++ t.cells (.slice wa t.wants.length wcap) (.slice ba t.bears.length bcap)) ([] ++ l ++ [t]) from (DR.nil.append (DR.mono (fun _ _ h => h.mono hJ) hd28)).append (DR.single rfl (ht0.mono hJ))) (by simp)
          refine .one (i := 6) (by kernel_rfl) rfl rfl <| .callP cal18 rfl rfl rfl (Sum_ok hy) ?_
          refine ⟨(.cons (.there <| .there <| .there <| .there <| .here) .nil), hJ, ?_⟩
          refine .t 7 rfl (.move rfl) rfl rfl (by kernel_rfl) <| .t 8 rfl (.extract rfl rfl) rfl rfl (by kernel_rfl) <| .t 9 rfl (.extract rfl rfl) rfl rfl (by kernel_rfl) <| .one (i := 11) (by kernel_rfl) rfl rfl <| .storeW sz22 rfl rfl rfl rfl rfl rfl (.there <| .here) ?_
          refine ⟨(.cons (.there <| .there <| .there <| .there <| .here) .nil), hJ, ?_⟩
          refine .t 12 rfl (.assign rfl) rfl rfl (by kernel_rfl) <| .done (by kernel_rfl) ?_
          refine .tail ?_
          exact .mid ((J, c27)) hJ ⟨rfl, rfl, trivial⟩ rfl rfl (.pre 12 rfl .self)
        · skip
          refine .buildSlice Try.underlying37 sz25 (by decide) (by decide) zv25 rfl rfl rfl rfl rfl fun c30 _ _ => ?_
          refine ⟨(.cons (.there <| .there <| .there <| .there <| .there <| .here) .nil), Imm.le_refl _, ?_⟩
          refine .one (i := 2) (by kernel_rfl) rfl rfl <| .append Try.underlying37 Try.underlying37 sz25 by25 zv25 rfl rfl rfl (.there <| .here) (OwnS.made rfl (by decide)) hs28.any hd28.1 (hd28.ones (by decide) fun _ _ h => TskR.ones h) (by omega) (by omega) rfl fun v28 ob28 ho28 => ?_
          refine ⟨(.cons (.app <| .there <| .there <| .there <| .there <| .here) .nil), Imm.le_refl _, ?_⟩
          refine .one (i := 5) (by kernel_rfl) rfl rfl <| .append Try.underlying37 Try.underlying37 sz25 by25 zv25 rfl rfl rfl .front ho28 ((OwnS.made (k := 9) rfl (by decide)).src (I := _) (.app <| .here)) rfl rfl (by omega) (by omega) rfl fun v31 ob31 ho31 => ?_
          refine ⟨(.cons (.app <| .there <| .there <| .there <| .there <| .here) .nil), Imm.le_refl _, ?_⟩
          refine .freezeS ho31 fun J hJ hJs => ?_
          have hy := hJs (R := TskR) (xs := l ++ [t]) (show DR TskR 9 J ([] ++ ws28 ++ t.cells (.slice wa t.wants.length wcap) (.slice ba t.bears.length bcap)) ([] ++ l ++ [t]) from (DR.nil.append (DR.mono (fun _ _ h => h.mono hJ) hd28)).append (DR.single rfl (ht0.mono hJ))) (by simp)
          refine .one (i := 6) (by kernel_rfl) rfl rfl <| .callP cal18 rfl rfl rfl (Sum_ok hy) ?_
          refine ⟨(.cons (.there <| .there <| .there <| .there <| .here) .nil), hJ, ?_⟩
          refine .t 7 rfl (.move rfl) rfl rfl (by kernel_rfl) <| .t 8 rfl (.extract rfl rfl) rfl rfl (by kernel_rfl) <| .t 9 rfl (.extract rfl rfl) rfl rfl (by kernel_rfl) <| .one (i := 11) (by kernel_rfl) rfl rfl <| .storeW sz22 rfl rfl rfl rfl rfl rfl (.there <| .here) ?_
          refine ⟨(.cons (.there <| .there <| .there <| .there <| .here) .nil), hJ, ?_⟩
          refine .t 12 rfl (.assign rfl) rfl rfl (by kernel_rfl) <| .done (by kernel_rfl) ?_
          refine .tail ?_
          exact .mid ((J, c27)) hJ ⟨rfl, rfl, trivial⟩ rfl rfl (.pre 12 rfl .self)
      · skip
        refine .buildSlice Try.underlying37 sz25 (by decide) (by decide) zv25 rfl rfl rfl rfl rfl fun c31 _ _ => ?_
        refine ⟨(.cons (.there <| .there <| .there <| .there <| .here) .nil), Imm.le_refl _, ?_⟩
        refine .one (i := 0) (by kernel_rfl) rfl rfl <| .buildSlice Try.underlying37 sz25 (by decide) (by decide) zv25 rfl rfl rfl rfl rfl fun c32 _ _ => ?_
        refine ⟨(.cons (.there <| .there <| .there <| .there <| .there <| .here) .nil), Imm.le_refl _, ?_⟩
        refine .one (i := 2) (by kernel_rfl) rfl rfl <| .append Try.underlying37 Try.underlying37 sz25 by25 zv25 rfl rfl rfl .here (OwnS.made rfl (by decide)) hs28.any hd28.1 (hd28.ones (by decide) fun _ _ h => TskR.ones h) (by omega) (by omega) rfl fun v28 ob28 ho28 => ?_
        refine ⟨(.cons (.app <| .there <| .there <| .there <| .there <| .here) .nil), Imm.le_refl _, ?_⟩
        refine .one (i := 5) (by kernel_rfl) rfl rfl <| .append Try.underlying37 Try.underlying37 sz25 by25 zv25 rfl rfl rfl .front ho28 ((OwnS.made (k := 9) rfl (by decide)).src (I := _) (.app <| .here)) rfl rfl (by omega) (by omega) rfl fun v31 ob31 ho31 => ?_
        refine ⟨(.cons (.app <| .there <| .there <| .there <| .there <| .here) .nil), Imm.le_refl _, ?_⟩
        refine .freezeS ho31 fun J hJ hJs => ?_
        have hy := hJs (R := TskR) (xs := l ++ [t]) (show DR TskR 9 J ([] ++ ws28 ++ t.cells (.slice wa t.wants.length wcap) (.slice ba t.bears.length bcap)) ([] ++ l ++ [t]) from (DR.nil.append (DR.mono (fun _ _ h => h.mono hJ) hd28)).append (DR.single rfl (ht0.mono hJ))) (by simp)
        refine .one (i := 6) (by kernel_rfl) rfl rfl <| .callP cal18 rfl rfl rfl (Sum_ok hy) ?_
        refine ⟨(.cons (.there <| .there <| .there <| .there <| .here) .nil), hJ, ?_⟩
        refine .t 7 rfl (.move rfl) rfl rfl (by kernel_rfl) <| .t 8 rfl (.extract rfl rfl) rfl rfl (by kernel_rfl) <| .t 9 rfl (.extract rfl rfl) rfl rfl (by kernel_rfl) <| .one (i := 11) (by kernel_rfl) rfl rfl <| .storeW sz22 rfl rfl rfl rfl rfl rfl (.there <| .here) ?_
        refine ⟨(.cons (.there <| .there <| .there <| .there <| .here) .nil), hJ, ?_⟩
        refine .t 12 rfl (.assign rfl) rfl rfl (by kernel_rfl) <| .done (by kernel_rfl) ?_
        refine .tail ?_
        exact .mid ((J, c27)) hJ ⟨rfl, rfl, trivial⟩ rfl rfl (.pre 12 rfl .self)
  · intro ⟨J, b9⟩ hJ
    dsimp only at hJ
    have hlJ := hl0.mono hJ
    have htJ := ht0.mono hJ
    obtain ⟨ws39, hs39, hd39⟩ := SlR.src (B := []) (fun _ _ h => TskR.len h) hlJ
    refine .seq <| .region <| .e (.loadW ag25 sz25 rfl (.there <| .there <| .there <| .here) rfl) rfl rfl <| .on rfl <| .buildSlice Try.underlying37 sz25 (by decide) (by decide) zv25 rfl rfl rfl rfl rfl fun c33 _ _ => .e (.move rfl) rfl rfl <| .on rfl <| .append Try.underlying37 Try.underlying37 sz25 by25 zv25 rfl rfl rfl .here (OwnS.made rfl (by decide)) hs39.any hd39.1 (hd39.ones (by decide) fun _ _ h => TskR.ones h) (by omega) (by omega) rfl fun v39 ob39 ho39 => ?_
    refine .freezeS ho39 fun K hK hKs => ?_
    have hz := hKs (R := TskR) (xs := [t] ++ l) (show DR TskR 9 K (t.cells (.slice wa t.wants.length wcap) (.slice ba t.bears.length bcap) ++ ws39) ([t] ++ l) from (DR.single rfl (htJ.mono hK)).append (DR.mono (fun _ _ h => h.mono hK) hd39)) (by simp [Nat.add_comm])
    refine .on rfl <| .callP cal18 rfl rfl rfl (Sum_ok hz) <| .e (.move rfl) rfl rfl <| .e (.extract rfl rfl) rfl rfl <| .e (.extract rfl rfl) rfl rfl <| .on rfl <| .alloc zr22 rfl fun c34 _ _ => .on rfl <| .storeW sz22 rfl rfl rfl rfl rfl rfl .here ?_
    refine .e (.assign rfl) rfl rfl <| .nil <| .go <| .seq <| .seq <| .region ?_
    refine .e (.move rfl) rfl rfl <| .e ((EV.cast (u := .bool false) (.neq rfl rfl) rfl)) rfl rfl <| .e (.move rfl) rfl rfl <| .e (.loadW ag22 sz22 rfl (.there <| .there <| .there <| .here) rfl) rfl rfl <| .e (.buildA ar22 zv22 rfl rfl) rfl rfl <| .e ((EV.cast (u := .bool false) (.nev (eqA3 (x := (sumR []).1) (y := ⟨0, 0, 0⟩)) rfl rfl) rfl)) rfl rfl ?_
    refine .e (.pickF rfl rfl) rfl rfl <| .e (.move rfl) rfl rfl <| .e (.loadW ag22 sz22 rfl (.there <| .here) rfl) rfl rfl <| .e (.loadW ag22 sz22 rfl .here rfl) rfl rfl <| .e ((EV.cast (u := .bool false) (.nev (eqA3 (x := (sumR (l ++ [t])).1) (y := (sumR ([t] ++ l)).1)) rfl rfl) (by rw [sumR_comm]; simp))) rfl rfl <| .e (.pickF rfl rfl) rfl rfl ?_
    refine .e (.move rfl) rfl rfl <| .e (.move rfl) rfl rfl <| .e (.move rfl) rfl rfl <| .e ((EV.cast (u := .bool false) (.neq rfl rfl) (by rw [sumR_comm]; simp))) rfl rfl <| .e (.pickF rfl rfl) rfl rfl <| .nil ?_
    refine .go <| .cond_false rfl <| .skip <| .go <| .seq <| .seq ?_
    refine .region <| .e (.move rfl) rfl rfl <| .e (.neq rfl rfl) rfl rfl <| .nil <| .go ?_
    refine .split 61 rfl (fun h61 => ?_) (fun h61 => ?_)
    · skip
      replace h61 := of_decide_eq_false (by simpa using h61)
      refine .cond_true rfl <| .seq <| .region <| .e (.loadW ag22 sz22 rfl (.there <| .here) rfl) rfl rfl <| .e (.buildA ar22 zv22 rfl rfl) rfl rfl <| .e ((EV.cast (u := .bool true) (.eqv (eqA3 (x := (sumR (l ++ [t])).1) (y := ⟨0, 0, 0⟩)) rfl rfl) (by rw [sumR_no h61]; rfl))) rfl rfl ?_
      refine .e (.assign rfl) rfl rfl <| .nil <| .go <| .ret <| .ret ?_
      refine .tail <| .tail <| .tail <| .tail <| .tail ?_
      refine .back (Imm.le_trans hJ hK) ?_
      refine Post.retE rfl rfl ?_
      rfl
    · skip
      replace h61 := of_decide_eq_true (by simpa using h61)
      have hok := sums_ok h61
      have hok1 := hok.2.2.2
      refine .cond_false rfl <| .skip <| .go <| .seq <| .seq <| .region ?_
      refine .e (.move rfl) rfl rfl <| .nil <| .go <| .block <| .unroll 3 <| .seq ?_
      refine .region <| .e (.lss rfl rfl) rfl rfl <| .nil <| .go <| .seq <| .cond_true rfl ?_
      refine .skip <| .go <| .seq <| .block <| .seq <| .region ?_
      refine .e (.move rfl) rfl rfl <| .e (.assign rfl) rfl rfl <| .nil <| .go ?_
      refine .draw [(c1, _)] mixed (.cons (.there <| .there <| .there <| .there <| .here) .nil) ?_
      refine .t 0 rfl (.move rfl) rfl rfl (by kernel_rfl) <| .t 1 rfl (.indexAddrA (j := 0) ar22 rfl rfl rfl (by first | decide | omega)) rfl rfl (by kernel_rfl) <| .t 3 rfl (.move rfl) rfl rfl (by kernel_rfl) <| .t 4 rfl (.fieldAddr fo25_1 rfl) rfl rfl (by kernel_rfl) <| .t 5 rfl (.indexAddrA (j := 0) ar22 rfl rfl rfl (by first | decide | omega)) rfl rfl (by kernel_rfl) <| .t 6 rfl (.load ag2 rfl .here rfl) rfl rfl (by kernel_rfl) ?_
      refine .one (i := 2) (by kernel_rfl) rfl rfl ?_
      refine .ev (.load ag2 rfl (.there <| .there <| .here) rfl) rfl ⟨(.cons (.there <| .there <| .there <| .there <| .here) .nil), Imm.le_refl _, ?_⟩
      refine .t 7 rfl (.add rfl rfl (IntWalk.i64_in _ (by omega))) rfl rfl (by kernel_rfl) <| .t 8 rfl (.indexAddrA (j := 0) ar22 rfl rfl rfl (by first | decide | omega)) rfl rfl (by kernel_rfl) <| .one (i := 9) (by kernel_rfl) rfl rfl <| .store sz2 rfl rfl rfl rfl rfl rfl (.there <| .there <| .here) ?_
      refine ⟨(.cons (.there <| .there <| .there <| .there <| .here) .nil), Imm.le_refl _, ?_⟩
      refine .done (by kernel_rfl) <| .blk_normal <| .go <| .region <| .e (.add (c := 1) rfl rfl (by decide)) rfl rfl <| .e (.move rfl) rfl rfl ?_
      refine .nil <| .again <| .seq <| .region <| .e (.lss rfl rfl) rfl rfl <| .nil ?_
      refine .go <| .seq <| .cond_true rfl <| .skip <| .go <| .seq ?_
      refine .block <| .seq <| .region <| .e (.move rfl) rfl rfl <| .e (.assign rfl) rfl rfl <| .nil ?_
      refine .go ?_
      refine .draw [(c1, _)] mixed (.cons (.there <| .there <| .there <| .there <| .here) .nil) ?_
      refine .t 0 rfl (.move rfl) rfl rfl (by kernel_rfl) <| .t 1 rfl (.indexAddrA (j := 1) ar22 rfl rfl rfl (by first | decide | omega)) rfl rfl (by kernel_rfl) <| .t 3 rfl (.move rfl) rfl rfl (by kernel_rfl) <| .t 4 rfl (.fieldAddr fo25_1 rfl) rfl rfl (by kernel_rfl) <| .t 5 rfl (.indexAddrA (j := 1) ar22 rfl rfl rfl (by first | decide | omega)) rfl rfl (by kernel_rfl) <| .t 6 rfl (.load ag2 rfl .here rfl) rfl rfl (by kernel_rfl) ?_
      refine .one (i := 2) (by kernel_rfl) rfl rfl ?_
      refine .ev (.load ag2 rfl (.there <| .there <| .here) rfl) rfl ⟨(.cons (.there <| .there <| .there <| .there <| .here) .nil), Imm.le_refl _, ?_⟩
      refine .t 7 rfl (.add rfl rfl (IntWalk.i64_in _ (by omega))) rfl rfl (by kernel_rfl) <| .t 8 rfl (.indexAddrA (j := 1) ar22 rfl rfl rfl (by first | decide | omega)) rfl rfl (by kernel_rfl) <| .one (i := 9) (by kernel_rfl) rfl rfl <| .store sz2 rfl rfl rfl rfl rfl rfl (.there <| .there <| .here) ?_
      refine ⟨(.cons (.there <| .there <| .there <| .there <| .here) .nil), Imm.le_refl _, ?_⟩
      refine .done (by kernel_rfl) <| .blk_normal <| .go <| .region <| .e (.add (c := 2) rfl rfl (by decide)) rfl rfl <| .e (.move rfl) rfl rfl ?_
      refine .nil <| .again <| .seq <| .region <| .e (.lss rfl rfl) rfl rfl <| .nil ?_
      refine .go <| .seq <| .cond_true rfl <| .skip <| .go <| .seq ?_
      refine .block <| .seq <| .region <| .e (.move rfl) rfl rfl <| .e (.assign rfl) rfl rfl <| .nil ?_
      refine .go ?_
      refine .draw [(c1, _)] mixed (.cons (.there <| .there <| .there <| .there <| .here) .nil) ?_
      refine .t 0 rfl (.move rfl) rfl rfl (by kernel_rfl) <| .t 1 rfl (.indexAddrA (j := 2) ar22 rfl rfl rfl (by first | decide | omega)) rfl rfl (by kernel_rfl) <| .t 3 rfl (.move rfl) rfl rfl (by kernel_rfl) <| .t 4 rfl (.fieldAddr fo25_1 rfl) rfl rfl (by kernel_rfl) <| .t 5 rfl (.indexAddrA (j := 2) ar22 rfl rfl rfl (by first | decide | omega)) rfl rfl (by kernel_rfl) <| .t 6 rfl (.load ag2 rfl .here rfl) rfl rfl (by kernel_rfl) ?_
      refine .one (i := 2) (by kernel_rfl) rfl rfl ?_
      refine .ev (.load ag2 rfl (.there <| .there <| .here) rfl) rfl ⟨(.cons (.there <| .there <| .there <| .there <| .here) .nil), Imm.le_refl _, ?_⟩
      refine .t 7 rfl (.add rfl rfl (IntWalk.i64_in _ (by omega))) rfl rfl (by kernel_rfl) <| .t 8 rfl (.indexAddrA (j := 2) ar22 rfl rfl rfl (by first | decide | omega)) rfl rfl (by kernel_rfl) <| .one (i := 9) (by kernel_rfl) rfl rfl <| .store sz2 rfl rfl rfl rfl rfl rfl (.there <| .there <| .here) ?_
      refine ⟨(.cons (.there <| .there <| .there <| .there <| .here) .nil), Imm.le_refl _, ?_⟩
      refine .done (by kernel_rfl) <| .blk_normal <| .go <| .region <| .e (.add (c := 3) rfl rfl (by decide)) rfl rfl <| .e (.move rfl) rfl rfl ?_
      refine .nil <| .again <| .seq <| .region <| .e (.lss rfl rfl) rfl rfl <| .nil ?_
      refine .go <| .seq <| .cond_false rfl <| .exit <| .exit <| .exit ?_
      refine .blk_exit <| .go <| .seq <| .region <| .e (.move rfl) rfl rfl <| .e ((EV.cast (.eql rfl rfl) (u := .bool true) (by rw [hok.1]; rfl))) rfl rfl ?_
      refine .e (.move rfl) rfl rfl <| .e (.loadW ag22 sz22 rfl (.there <| .there <| .here) rfl) rfl rfl <| .e (.loadW ag22 sz22 rfl (.there <| .here) rfl) rfl rfl <| .e ((EV.cast (u := .bool true) (.eqv (eqA3 (x := ⟨(sumR l).1.a + t.needs.a, (sumR l).1.b + t.needs.b, (sumR l).1.c + t.needs.c⟩) (y := (sumR (l ++ [t])).1)) rfl rfl) (by rw [hok.2.2.1, hok.2.1]; simp))) rfl rfl <| .e (.pickT rfl rfl) rfl rfl <| .e (.assign rfl) rfl rfl ?_
      refine .nil <| .go <| .ret ?_
      refine .tail <| .tail <| .tail <| .tail <| .tail ?_
      refine .back (Imm.le_trans hJ hK) ?_
      refine Post.retE rfl rfl ?_
      rfl

end Go.Proofs.Ytamgiiohaojelaa
