/- Walks of functions over a symbolic memory, printed by a program of the session. -/
import Derived.Test.YtamgiiohaojelaaWd
import Derived.Test.YtamgiiohaojelaaSyG
namespace Go.Proofs.Ytamgiiohaojelaa
open Go.Sy
set_option linter.unusedSimpArgs false
set_option linter.unusedVariables false

theorem any_sub {l : List Pr} {o o2 : List Pr} (h : ∀ p ∈ o, p ∈ o2) {p : Pr} (hp : o.any (fun q => decide (p = q)) = true) : o2.any (fun q => decide (p = q)) = true := by
  obtain ⟨q, hq, he⟩ := List.any_eq_true.1 hp
  exact List.any_eq_true.2 ⟨q, h q hq, he⟩
theorem within_less {l l2 o o2 : List Pr} (h1 : ∀ p ∈ l2, p ∈ l) (h2 : ∀ p ∈ o, p ∈ o2) (h : within l o = true) : within l2 o2 = true := by
  unfold within at *
  exact List.all_eq_true.2 fun p hp => any_sub (l := l) h2 (List.all_eq_true.1 h p (h1 p hp))
theorem suits_cut {t : Tsk} {n : Nod} {l : List Pr} (hl : ∀ p ∈ l, p ∈ t.wants) (h : suits t n = true) : suits { t with wants := l } n = true := by
  unfold suits at *
  rw [Bool.and_eq_true] at *
  exact ⟨within_less hl (fun _ h => h) h.1, h.2⟩
theorem suits_more {t : Tsk} {n : Nod} {p : Pr} (h : suits t n = true) : suits { t with bears := t.bears ++ [p] } n = true := by
  unfold suits at *
  rw [Bool.and_eq_true] at *
  exact ⟨h.1, within_less (fun _ h => h) (fun _ h => List.mem_append_left _ h) h.2⟩
theorem room_out {n : Nod} {u d : A3} (h : room n u d = true) : n.has.amt 1 = true ∧ u.amt 32 = true ∧ d.amt 1 = true ∧ u.a + d.a ≤ n.has.a ∧ u.b + d.b ≤ n.has.b ∧ u.c + d.c ≤ n.has.c := by
  unfold room at h
  simp only [Bool.and_eq_true, decide_eq_true_eq] at h
  exact ⟨h.1.1.1, h.1.1.2, h.1.2, h.2⟩
theorem room_less {n : Nod} {u d e : A3} (h : room n u d = true) (ha : e.a = d.a ∨ e.a = 0) (hb : e.b = d.b ∨ e.b = 0) (hc : e.c = d.c ∨ e.c = 0) : room n u e = true := by
  obtain ⟨h1, h2, h3, h4⟩ := room_out h
  have h3' := A3.amt_out h3
  have h5 : e.amt 1 = true := decide_eq_true (by omega)
  unfold room
  simp only [h1, h2, h5, Bool.true_and]
  exact decide_eq_true (by omega)
theorem room_zero {n : Nod} {u d : A3} (h : room n u d = true) : room n ⟨0, 0, 0⟩ d = true := by
  obtain ⟨h1, h2, h3, h4⟩ := room_out h
  have h2' := A3.amt_out h2
  unfold room
  simp only [h1, h3, Bool.true_and, Bool.and_true]
  have : (⟨0, 0, 0⟩ : A3).amt 32 = true := by decide
  rw [this]
  exact decide_eq_true (by simp only [Int.zero_add]; omega)
theorem mod3 {k : Int} (h : U8 k) : k.tmod 3 = ((0 : Nat) : Int) ∨ k.tmod 3 = ((1 : Nat) : Int) ∨ k.tmod 3 = ((2 : Nat) : Int) := by
  obtain ⟨h1, h2⟩ := h
  have := Int.tmod_eq_emod_of_nonneg h1 (b := 3)
  omega

set_option maxHeartbeats 4000000 in
set_option maxRecDepth 20000 in
theorem RigLess_ok {I : Imm} {O : Own} {tc nc mc : List Value} {t : Tsk} {n : Nod} {p : Pr} (ht : TskR I tc t) (hn : NodR I nc n) (hp : PrR I mc p) {u d : A3} {k : Int} (hk : U8 k) (hL : t.bears.length * 32 ≤ 140737488351232) :
    Pure Try.prog 7 [.agg ⟨tc⟩, .agg ⟨nc⟩, .agg ⟨mc⟩, .agg ⟨[.int .i64 u.a, .int .i64 u.b, .int .i64 u.c]⟩, .agg ⟨[.int .i64 d.a, .int .i64 d.b, .int .i64 d.c]⟩, .int .u8 k] I O (.bool true) := by
  have hn0 := hn
  obtain ⟨nl, nt, rfl, hnl, hnt⟩ := hn.ex
  have hnl0 := hnl
  obtain ⟨la, lcap, rfl, hl1, hl2, -⟩ := hnl
  have hnt0 := hnt
  obtain ⟨xa, xcap, rfl, hxx1, hxx2, -⟩ := hnt
  have ht0 := ht
  obtain ⟨tw, tb, rfl, htw, htb⟩ := ht.ex
  have htw0 := htw
  obtain ⟨wa, wcap, rfl, hw1, hw2, -⟩ := htw
  have htb0 := htb
  obtain ⟨ba, bcap, rfl, hb1, hb2, -⟩ := htb
  have hp0 := hp
  obtain ⟨rfl, hp1, hp2⟩ := hp
  obtain ⟨ws29, hs29, hd29⟩ := SlR.src (B := []) (fun _ _ h => PrR.len h) htb0
  have hk3 := mod3 hk
  refine Does.enter Try.func7 rfl Try.ntmps7 rfl ?_
  refine .seq <| .region <| .on rfl <| .box rfl rfl rfl fun c1 _ _ => .on rfl <| .box rfl rfl rfl fun c2 _ _ => .on rfl <| .box rfl rfl rfl fun c3 _ _ => .on rfl <| .box rfl rfl rfl fun c4 _ _ => ?_
  refine .on rfl <| .box rfl rfl rfl fun c5 _ _ => .e (.assign rfl) rfl rfl <| .nil <| .go <| .seq <| .seq ?_
  refine .region <| .on rfl <| .callP cal13 rfl rfl rfl (suits_ok) <| .e (.not rfl) rfl rfl <| .e (.move rfl) rfl rfl <| .on rfl <| .callP cal16 rfl rfl rfl (rooms_ok) <| .e (.not rfl) rfl rfl ?_
  refine .e (.pickF rfl rfl) rfl rfl <| .nil <| .go <| .cond_false rfl <| .skip <| .go ?_
  refine .seq <| .seq <| .region <| .e (.loadW ag25 sz25 rfl (.there <| .there <| .there <| .there <| .here) rfl) rfl rfl <| .e (.loadW ag30 sz30 rfl (.there <| .there <| .there <| .here) rfl) rfl rfl <| .on rfl <| .callP cal14 rfl rfl rfl (Suits_ok ht0 hn0) ?_
  refine .nil <| .go ?_
  refine .split 24 rfl (fun h24 => ?_) (fun h24 => ?_)
  · skip
    refine .cond_true rfl ?_
    refine .meetO (σ := Nat × Nat) [13, 14, 25, 26] (fun _ => True) (fun s => [(13, .pointer (some ⟨s.1, 0, none⟩)), (14, .pointer (some ⟨s.2, 0, none⟩))]) (fun _ => I) (fun R s => (s.1, .cells ⟨t.cells (.slice wa t.wants.length wcap) (.slice ba t.bears.length bcap)⟩ 25 (0, 0)) :: (s.2, .cells ⟨t.cells (.slice wa t.wants.length wcap) (.slice ba t.bears.length bcap)⟩ 25 (0, 0)) :: R) ?_ ?_
    · skip
      refine .draw [(c1, _)] mixed (.cons (.there <| .there <| .there <| .there <| .here) .nil) ?_
      refine .t 0 rfl (.loadW ag25 sz25 rfl .here rfl) rfl rfl (by kernel_rfl) <| .t 1 rfl (.loadW ag25 sz25 rfl .here rfl) rfl rfl (by kernel_rfl) ?_
      refine .all (rs := [2, 3]) (by kernel_rfl) (by simp) ⟨⟨_, rfl, .inl ⟨rfl, ?_⟩⟩, ⟨⟨_, rfl, .inl ⟨rfl, ?_⟩⟩, trivial⟩⟩
      · skip
        refine .alloc zr25 rfl fun c6 _ _ => ?_
        refine ⟨(.cons (.there <| .there <| .there <| .there <| .there <| .here) .nil), Imm.le_refl _, ?_⟩
        refine .one (i := 3) (by kernel_rfl) rfl rfl <| .alloc zr25 rfl fun c7 _ _ => ?_
        refine ⟨(.cons (.there <| .there <| .there <| .there <| .there <| .there <| .here) .nil), Imm.le_refl _, ?_⟩
        refine .one (i := 4) (by kernel_rfl) rfl rfl <| .storeW sz25 rfl rfl rfl rfl rfl rfl (.there <| .here) ?_
        refine ⟨(.cons (.there <| .there <| .there <| .there <| .there <| .there <| .here) .nil), Imm.le_refl _, ?_⟩
        refine .one (i := 5) (by kernel_rfl) rfl rfl <| .storeW sz25 rfl rfl rfl rfl rfl rfl .here ?_
        refine ⟨(.cons (.there <| .there <| .there <| .there <| .there <| .there <| .here) .nil), Imm.le_refl _, ?_⟩
        refine .done (by kernel_rfl) ?_
        refine .front (.there <| .here) ?_
        exact .mid ((c6, c7)) trivial ⟨rfl, rfl, trivial⟩ rfl rfl (.pre 4 rfl .self)
      · skip
        refine .alloc zr25 rfl fun c8 _ _ => ?_
        refine ⟨(.cons (.there <| .there <| .there <| .there <| .there <| .here) .nil), Imm.le_refl _, ?_⟩
        refine .one (i := 2) (by kernel_rfl) rfl rfl <| .alloc zr25 rfl fun c9 _ _ => ?_
        refine ⟨(.cons (.there <| .there <| .there <| .there <| .there <| .there <| .here) .nil), Imm.le_refl _, ?_⟩
        refine .one (i := 4) (by kernel_rfl) rfl rfl <| .storeW sz25 rfl rfl rfl rfl rfl rfl .here ?_
        refine ⟨(.cons (.there <| .there <| .there <| .there <| .there <| .there <| .here) .nil), Imm.le_refl _, ?_⟩
        refine .one (i := 5) (by kernel_rfl) rfl rfl <| .storeW sz25 rfl rfl rfl rfl rfl rfl (.there <| .here) ?_
        refine ⟨(.cons (.there <| .there <| .there <| .there <| .there <| .there <| .here) .nil), Imm.le_refl _, ?_⟩
        refine .done (by kernel_rfl) ?_
        exact .mid ((c9, c8)) trivial ⟨rfl, rfl, trivial⟩ rfl rfl (.pre 4 rfl .self)
    · intro ⟨b13, b14⟩ _
      refine .meetO (σ := Imm × Value) [27, 28, 29, 30, 31, 32, 33, 34] (fun s => I.le s.1 ∧ PrsR s.1 s.2 (t.bears ++ [p])) (fun s => []) (fun s => s.1) (fun R s => (b13, .cells ⟨t.cells (.slice wa t.wants.length wcap) (.slice ba t.bears.length bcap)⟩ 25 (0, 0)) :: (b14, .cells ⟨t.cells (.slice wa t.wants.length wcap) s.2⟩ 25 (0, 0)) :: R.tail.tail) ?_ ?_
      · skip
        refine .draw [(c1, _), (c3, _)] mixed (.cons (.there <| .there <| .there <| .there <| .there <| .there <| .here) (.cons (.there <| .there <| .there <| .there <| .here) .nil)) ?_
        refine .t 1 rfl (.fieldAddr fo25_3 rfl) rfl rfl (by kernel_rfl) <| .t 2 rfl (.load ag23 rfl .here rfl) rfl rfl (by kernel_rfl) <| .t 4 rfl (.loadW ag34 sz34 rfl (.there <| .here) rfl) rfl rfl (by kernel_rfl) ?_
        refine .all (rs := [0, 5]) (by kernel_rfl) (by simp) ⟨⟨_, rfl, .inl ⟨rfl, ?_⟩⟩, ⟨⟨_, rfl, .inl ⟨rfl, ?_⟩⟩, trivial⟩⟩
        · skip
          refine .buildSlice Try.underlying23 sz34 (by decide) (by decide) zv34 rfl rfl rfl rfl rfl fun c10 _ _ => ?_
          refine ⟨(.cons (.there <| .there <| .there <| .there <| .there <| .there <| .there <| .here) (.cons (.there <| .there <| .there <| .there <| .there <| .here) .nil)), Imm.le_refl _, ?_⟩
          refine .all (rs := [3, 5]) (by kernel_rfl) (by simp) ⟨⟨_, rfl, .inl ⟨rfl, ?_⟩⟩, ⟨⟨_, rfl, .inl ⟨rfl, ?_⟩⟩, trivial⟩⟩
          · skip
            refine .append Try.underlying23 Try.underlying23 sz34 by34 zv34 rfl rfl rfl .here (OwnS.made rfl (by decide)) hs29.any hd29.1 (hd29.ones (by decide) fun _ _ h => PrR.ones h) (by omega) (by omega) rfl fun v30 ob30 ho30 => ?_
            refine ⟨(.cons (.app <| .there <| .there <| .there <| .there <| .there <| .there <| .here) (.cons (.app <| .there <| .there <| .there <| .there <| .here) .nil)), Imm.le_refl _, ?_⟩
            refine .one (i := 5) (by kernel_rfl) rfl rfl <| .buildSlice Try.underlying23 sz34 (by decide) (by decide) zv34 rfl rfl rfl rfl rfl fun c11 _ _ => ?_
            refine ⟨(.cons (.there <| .app <| .there <| .there <| .there <| .there <| .there <| .there <| .here) (.cons (.there <| .app <| .there <| .there <| .there <| .there <| .here) .nil)), Imm.le_refl _, ?_⟩
            refine .one (i := 6) (by kernel_rfl) rfl rfl <| .append Try.underlying23 Try.underlying23 sz34 by34 zv34 rfl rfl rfl (.there <| .front) ho30 ((OwnS.made (k := 2) rfl (by decide)).src (I := _) .here) rfl rfl (by omega) (by omega) rfl fun v33 ob33 ho33 => ?_
            refine ⟨(.cons (.app <| .there <| .there <| .there <| .there <| .there <| .there <| .there <| .here) (.cons (.app <| .there <| .there <| .there <| .there <| .there <| .here) .nil)), Imm.le_refl _, ?_⟩
            refine .t 7 rfl (.fieldAddr fo25_3 rfl) rfl rfl (by kernel_rfl) ?_
            refine .freezeS ho33 fun J hJ hJs => ?_
            have hy := hJs (R := PrR) (xs := t.bears ++ [p]) (show DR PrR 2 J ([] ++ ws29 ++ [.string p.key, .string p.value]) ([] ++ t.bears ++ [p]) from (DR.nil.append (DR.mono (J := J) (fun _ _ h => h) hd29)).append (DR.single rfl ⟨rfl, hp1, hp2⟩)) (by simp)
            have hy0 := hy
            obtain ⟨ya, ycap, rfl, hy1, hy2, -⟩ := hy
            refine .one (i := 8) (by kernel_rfl) rfl rfl <| .store sz23 rfl rfl rfl rfl rfl rfl (.there <| .there <| .here) ?_
            refine ⟨(.cons (.there <| .there <| .there <| .there <| .there <| .there <| .there <| .here) (.cons (.there <| .there <| .there <| .there <| .there <| .here) .nil)), hJ, ?_⟩
            refine .done (by kernel_rfl) ?_
            refine .tail ?_
            exact .mid ((J, _)) ⟨hJ, by assumption⟩ trivial rfl rfl (.pre 8 rfl .self)
          · skip
            refine .buildSlice Try.underlying23 sz34 (by decide) (by decide) zv34 rfl rfl rfl rfl rfl fun c12 _ _ => ?_
            refine ⟨(.cons (.there <| .there <| .there <| .there <| .there <| .there <| .there <| .there <| .here) (.cons (.there <| .there <| .there <| .there <| .there <| .there <| .here) .nil)), Imm.le_refl _, ?_⟩
            refine .one (i := 3) (by kernel_rfl) rfl rfl <| .append Try.underlying23 Try.underlying23 sz34 by34 zv34 rfl rfl rfl (.there <| .here) (OwnS.made rfl (by decide)) hs29.any hd29.1 (hd29.ones (by decide) fun _ _ h => PrR.ones h) (by omega) (by omega) rfl fun v30 ob30 ho30 => ?_
            refine ⟨(.cons (.app <| .there <| .there <| .there <| .there <| .there <| .there <| .there <| .here) (.cons (.app <| .there <| .there <| .there <| .there <| .there <| .here) .nil)), Imm.le_refl _, ?_⟩
            refine .one (i := 6) (by kernel_rfl) rfl rfl <| .append Try.underlying23 Try.underlying23 sz34 by34 zv34 rfl rfl rfl .front ho30 ((OwnS.made (k := 2) rfl (by decide)).src (I := _) (.app <| .here)) rfl rfl (by omega) (by omega) rfl fun v33 ob33 ho33 => ?_
            refine ⟨(.cons (.app <| .there <| .there <| .there <| .there <| .there <| .there <| .there <| .here) (.cons (.app <| .there <| .there <| .there <| .there <| .there <| .here) .nil)), Imm.le_refl _, ?_⟩
            refine .t 7 rfl (.fieldAddr fo25_3 rfl) rfl rfl (by kernel_rfl) ?_
            refine .freezeS ho33 fun J hJ hJs => ?_
            have hy := hJs (R := PrR) (xs := t.bears ++ [p]) (show DR PrR 2 J ([] ++ ws29 ++ [.string p.key, .string p.value]) ([] ++ t.bears ++ [p]) from (DR.nil.append (DR.mono (J := J) (fun _ _ h => h) hd29)).append (DR.single rfl ⟨rfl, hp1, hp2⟩)) (by simp)
            have hy0 := hy
            obtain ⟨ya, ycap, rfl, hy1, hy2, -⟩ := hy
            refine .one (i := 8) (by kernel_rfl) rfl rfl <| .store sz23 rfl rfl rfl rfl rfl rfl (.there <| .there <| .here) ?_
            refine ⟨(.cons (.there <| .there <| .there <| .there <| .there <| .there <| .there <| .here) (.cons (.there <| .there <| .there <| .there <| .there <| .here) .nil)), hJ, ?_⟩
            refine .done (by kernel_rfl) ?_
            refine .tail ?_
            exact .mid ((J, _)) ⟨hJ, by assumption⟩ trivial rfl rfl (.pre 8 rfl .self)
        · skip
          refine .buildSlice Try.underlying23 sz34 (by decide) (by decide) zv34 rfl rfl rfl rfl rfl fun c13 _ _ => ?_
          refine ⟨(.cons (.there <| .there <| .there <| .there <| .there <| .there <| .there <| .here) (.cons (.there <| .there <| .there <| .there <| .there <| .here) .nil)), Imm.le_refl _, ?_⟩
          refine .one (i := 0) (by kernel_rfl) rfl rfl <| .buildSlice Try.underlying23 sz34 (by decide) (by decide) zv34 rfl rfl rfl rfl rfl fun c14 _ _ => ?_
          refine ⟨(.cons (.there <| .there <| .there <| .there <| .there <| .there <| .there <| .there <| .here) (.cons (.there <| .there <| .there <| .there <| .there <| .there <| .here) .nil)), Imm.le_refl _, ?_⟩
          refine .one (i := 3) (by kernel_rfl) rfl rfl <| .append Try.underlying23 Try.underlying23 sz34 by34 zv34 rfl rfl rfl .here (OwnS.made rfl (by decide)) hs29.any hd29.1 (hd29.ones (by decide) fun _ _ h => PrR.ones h) (by omega) (by omega) rfl fun v30 ob30 ho30 => ?_
          refine ⟨(.cons (.app <| .there <| .there <| .there <| .there <| .there <| .there <| .there <| .here) (.cons (.app <| .there <| .there <| .there <| .there <| .there <| .here) .nil)), Imm.le_refl _, ?_⟩
          refine .one (i := 6) (by kernel_rfl) rfl rfl <| .append Try.underlying23 Try.underlying23 sz34 by34 zv34 rfl rfl rfl .front ho30 ((OwnS.made (k := 2) rfl (by decide)).src (I := _) (.app <| .here)) rfl rfl (by omega) (by omega) rfl fun v33 ob33 ho33 => ?_
          refine ⟨(.cons (.app <| .there <| .there <| .there <| .there <| .there <| .there <| .there <| .here) (.cons (.app <| .there <| .there <| .there <| .there <| .there <| .here) .nil)), Imm.le_refl _, ?_⟩
          refine .t 7 rfl (.fieldAddr fo25_3 rfl) rfl rfl (by kernel_rfl) ?_
          refine .freezeS ho33 fun J hJ hJs => ?_
          have hy := hJs (R := PrR) (xs := t.bears ++ [p]) (show DR PrR 2 J ([] ++ ws29 ++ [.string p.key, .string p.value]) ([] ++ t.bears ++ [p]) from (DR.nil.append (DR.mono (J := J) (fun _ _ h => h) hd29)).append (DR.single rfl ⟨rfl, hp1, hp2⟩)) (by simp)
          have hy0 := hy
          obtain ⟨ya, ycap, rfl, hy1, hy2, -⟩ := hy
          refine .one (i := 8) (by kernel_rfl) rfl rfl <| .store sz23 rfl rfl rfl rfl rfl rfl (.there <| .there <| .here) ?_
          refine ⟨(.cons (.there <| .there <| .there <| .there <| .there <| .there <| .there <| .here) (.cons (.there <| .there <| .there <| .there <| .there <| .here) .nil)), hJ, ?_⟩
          refine .done (by kernel_rfl) ?_
          refine .tail ?_
          exact .mid ((J, _)) ⟨hJ, by assumption⟩ trivial rfl rfl (.pre 8 rfl .self)
      · intro ⟨J, yv⟩ ⟨hJ, hy⟩
        dsimp only at hJ hy ⊢
        have hy0 := hy
        obtain ⟨ya, ycap, rfl, hy1, hy2, -⟩ := hy
        have hn1 := hn0.mono hJ
        have htw1 := htw0.mono hJ
        have htb1 := htb0.mono hJ
        refine .seq <| .seq <| .region <| .e (.fieldAddr fo25_2 rfl) rfl rfl <| .e (.load ag23 rfl (.there <| .there <| .there <| .there <| .there <| .there <| .here) rfl) rfl rfl <| .e (.len sl23 rfl rfl) rfl rfl ?_
        refine .e (.gtr rfl rfl) rfl rfl <| .nil <| .go ?_
        refine .split 38 rfl (fun h38 => ?_) (fun h38 => ?_)
        · skip
          replace h38 := of_decide_eq_true h38
          refine .cond_true rfl <| .region <| .e (.fieldAddr fo25_2 rfl) rfl rfl <| .e (.load ag23 rfl (.there <| .there <| .there <| .there <| .there <| .there <| .here) rfl) rfl rfl <| .e (.sliceL (l := 1) sl23 rfl rfl rfl (by omega)) rfl rfl <| .e (.fieldAddr fo25_2 rfl) rfl rfl ?_
          refine .on rfl <| .store sz23 rfl rfl rfl rfl rfl rfl .here <| .nil <| .go <| .seq <| .region <| .e (.loadW ag25 sz25 rfl .here rfl) rfl rfl ?_
          refine .e (.loadW ag30 sz30 rfl (.there <| .there <| .there <| .there <| .there <| .here) rfl) rfl rfl <| .on rfl <| .callP cal14 rfl rfl rfl ((Suits_ok (t := { t with wants := (t.wants.take t.wants.length).drop 1 }) (n := n) ⟨⟨_, _, rfl, htw1.cut (by omega) (by omega), htb1⟩, ht0.name, ht0.needs, ht0.group, ht0.apart, ht0.rank⟩ hn1).castT (suits_cut (fun q hq => mem_cut hq) h24)) <| .e (.not rfl) rfl rfl <| .e (.move rfl) rfl rfl <| .e (.loadW ag25 sz25 rfl (.there <| .here) rfl) rfl rfl <| .e (.loadW ag30 sz30 rfl (.there <| .there <| .there <| .there <| .there <| .here) rfl) rfl rfl ?_
          refine .on rfl <| .callP cal14 rfl rfl rfl ((Suits_ok (t := { t with bears := t.bears ++ [p] }) (n := n) ⟨⟨_, _, rfl, htw1, hy0⟩, ht0.name, ht0.needs, ht0.group, ht0.apart, ht0.rank⟩ hn1).castT (suits_more h24)) <| .e (.not rfl) rfl rfl <| .e (.pickF rfl rfl) rfl rfl <| .nil <| .go <| .cond_false rfl ?_
          refine .skip <| .go <| .seq <| .region <| .e (.loadW ag22 sz22 rfl (.there <| .there <| .here) rfl) rfl rfl <| .on rfl <| .alloc zr22 rfl fun c15 _ _ => ?_
          refine .on rfl <| .storeW sz22 rfl rfl rfl rfl rfl rfl .here <| .nil <| .go <| .seq <| .region <| .e (.move rfl) rfl rfl ?_
          refine .e (.rem rfl rfl (by decide) rfl) rfl rfl ?_
          rcases hk3 with e56 | e56 | e56
          · skip
            refine .e (.indexAddrA (j := 0) ar22 rfl rfl e56 (by decide)) rfl rfl <| .on rfl <| .store sz2 rfl rfl rfl rfl rfl rfl .here <| .nil <| .go <| .seq <| .region ?_
            refine .e (.loadW ag30 sz30 rfl (.there <| .there <| .there <| .there <| .there <| .there <| .here) rfl) rfl rfl <| .e (.loadW ag22 sz22 rfl (.there <| .there <| .there <| .there <| .here) rfl) rfl rfl <| .e (.loadW ag22 sz22 rfl (.there <| .there <| .there <| .here) rfl) rfl rfl <| .on rfl <| .callP cal17 rfl rfl rfl (Room_ok (u := u) (d := d) hn1) <| .e (.not rfl) rfl rfl <| .e (.move rfl) rfl rfl ?_
            refine .split 62 rfl (fun h62 => ?_) (fun h62 => ?_)
            · skip
              refine .off rfl rfl <| .off rfl rfl <| .off rfl rfl <| .off rfl rfl <| .off rfl rfl <| .off rfl rfl ?_
              refine .off rfl rfl <| .off rfl rfl <| .off rfl rfl <| .off rfl rfl <| .e (.pickT rfl rfl) rfl rfl <| .e (.assign rfl) rfl rfl ?_
              refine .nil <| .go <| .ret ?_
              refine .tail <| .tail <| .tail <| .tail <| .tail <| .tail ?_
              refine .tail <| .tail ?_
              refine .back hJ ?_
              refine Post.retE rfl rfl ?_
              simp
            · skip
              refine .e (.loadW ag30 sz30 rfl (.there <| .there <| .there <| .there <| .there <| .there <| .here) rfl) rfl rfl <| .e (.loadW ag22 sz22 rfl (.there <| .there <| .there <| .there <| .here) rfl) rfl rfl <| .e (.loadW ag22 sz22 rfl .here rfl) rfl rfl <| .on rfl <| .callP cal17 rfl rfl rfl ((Room_ok (n := n) (u := u) (d := ⟨0, d.b, d.c⟩) hn1).castT (room_less (d := d) (by simpa using h62) (by simp) (by simp) (by simp))) <| .e (.move rfl) rfl rfl <| .e (.loadW ag30 sz30 rfl (.there <| .there <| .there <| .there <| .there <| .there <| .here) rfl) rfl rfl ?_
              refine .e (.buildA ar22 zv22 rfl rfl) rfl rfl <| .e (.loadW ag22 sz22 rfl (.there <| .there <| .there <| .here) rfl) rfl rfl <| .on rfl <| .callP cal17 rfl rfl rfl ((Room_ok (u := ⟨0, 0, 0⟩) (d := d) hn1).castT (room_zero (u := u) (by simpa using h62))) <| .e (.pickT rfl rfl) rfl rfl <| .e (.pickF rfl rfl) rfl rfl <| .e (.assign rfl) rfl rfl ?_
              refine .nil <| .go <| .ret ?_
              refine .tail <| .tail <| .tail <| .tail <| .tail <| .tail ?_
              refine .tail <| .tail ?_
              refine .back hJ ?_
              refine Post.retE rfl rfl ?_
              simp
          · skip
            refine .e (.indexAddrA (j := 1) ar22 rfl rfl e56 (by decide)) rfl rfl <| .on rfl <| .store sz2 rfl rfl rfl rfl rfl rfl .here <| .nil <| .go <| .seq <| .region ?_
            refine .e (.loadW ag30 sz30 rfl (.there <| .there <| .there <| .there <| .there <| .there <| .here) rfl) rfl rfl <| .e (.loadW ag22 sz22 rfl (.there <| .there <| .there <| .there <| .here) rfl) rfl rfl <| .e (.loadW ag22 sz22 rfl (.there <| .there <| .there <| .here) rfl) rfl rfl <| .on rfl <| .callP cal17 rfl rfl rfl (Room_ok (u := u) (d := d) hn1) <| .e (.not rfl) rfl rfl <| .e (.move rfl) rfl rfl ?_
            refine .split 62 rfl (fun h62 => ?_) (fun h62 => ?_)
            · skip
              refine .off rfl rfl <| .off rfl rfl <| .off rfl rfl <| .off rfl rfl <| .off rfl rfl <| .off rfl rfl ?_
              refine .off rfl rfl <| .off rfl rfl <| .off rfl rfl <| .off rfl rfl <| .e (.pickT rfl rfl) rfl rfl <| .e (.assign rfl) rfl rfl ?_
              refine .nil <| .go <| .ret ?_
              refine .tail <| .tail <| .tail <| .tail <| .tail <| .tail ?_
              refine .tail <| .tail ?_
              refine .back hJ ?_
              refine Post.retE rfl rfl ?_
              simp
            · skip
              refine .e (.loadW ag30 sz30 rfl (.there <| .there <| .there <| .there <| .there <| .there <| .here) rfl) rfl rfl <| .e (.loadW ag22 sz22 rfl (.there <| .there <| .there <| .there <| .here) rfl) rfl rfl <| .e (.loadW ag22 sz22 rfl .here rfl) rfl rfl <| .on rfl <| .callP cal17 rfl rfl rfl ((Room_ok (n := n) (u := u) (d := ⟨d.a, 0, d.c⟩) hn1).castT (room_less (d := d) (by simpa using h62) (by simp) (by simp) (by simp))) <| .e (.move rfl) rfl rfl <| .e (.loadW ag30 sz30 rfl (.there <| .there <| .there <| .there <| .there <| .there <| .here) rfl) rfl rfl ?_
              refine .e (.buildA ar22 zv22 rfl rfl) rfl rfl <| .e (.loadW ag22 sz22 rfl (.there <| .there <| .there <| .here) rfl) rfl rfl <| .on rfl <| .callP cal17 rfl rfl rfl ((Room_ok (u := ⟨0, 0, 0⟩) (d := d) hn1).castT (room_zero (u := u) (by simpa using h62))) <| .e (.pickT rfl rfl) rfl rfl <| .e (.pickF rfl rfl) rfl rfl <| .e (.assign rfl) rfl rfl ?_
              refine .nil <| .go <| .ret ?_
              refine .tail <| .tail <| .tail <| .tail <| .tail <| .tail ?_
              refine .tail <| .tail ?_
              refine .back hJ ?_
              refine Post.retE rfl rfl ?_
              simp
          · skip
            refine .e (.indexAddrA (j := 2) ar22 rfl rfl e56 (by decide)) rfl rfl <| .on rfl <| .store sz2 rfl rfl rfl rfl rfl rfl .here <| .nil <| .go <| .seq <| .region ?_
            refine .e (.loadW ag30 sz30 rfl (.there <| .there <| .there <| .there <| .there <| .there <| .here) rfl) rfl rfl <| .e (.loadW ag22 sz22 rfl (.there <| .there <| .there <| .there <| .here) rfl) rfl rfl <| .e (.loadW ag22 sz22 rfl (.there <| .there <| .there <| .here) rfl) rfl rfl <| .on rfl <| .callP cal17 rfl rfl rfl (Room_ok (u := u) (d := d) hn1) <| .e (.not rfl) rfl rfl <| .e (.move rfl) rfl rfl ?_
            refine .split 62 rfl (fun h62 => ?_) (fun h62 => ?_)
            · skip
              refine .off rfl rfl <| .off rfl rfl <| .off rfl rfl <| .off rfl rfl <| .off rfl rfl <| .off rfl rfl ?_
              refine .off rfl rfl <| .off rfl rfl <| .off rfl rfl <| .off rfl rfl <| .e (.pickT rfl rfl) rfl rfl <| .e (.assign rfl) rfl rfl ?_
              refine .nil <| .go <| .ret ?_
              refine .tail <| .tail <| .tail <| .tail <| .tail <| .tail ?_
              refine .tail <| .tail ?_
              refine .back hJ ?_
              refine Post.retE rfl rfl ?_
              simp
            · skip
              refine .e (.loadW ag30 sz30 rfl (.there <| .there <| .there <| .there <| .there <| .there <| .here) rfl) rfl rfl <| .e (.loadW ag22 sz22 rfl (.there <| .there <| .there <| .there <| .here) rfl) rfl rfl <| .e (.loadW ag22 sz22 rfl .here rfl) rfl rfl <| .on rfl <| .callP cal17 rfl rfl rfl ((Room_ok (n := n) (u := u) (d := ⟨d.a, d.b, 0⟩) hn1).castT (room_less (d := d) (by simpa using h62) (by simp) (by simp) (by simp))) <| .e (.move rfl) rfl rfl <| .e (.loadW ag30 sz30 rfl (.there <| .there <| .there <| .there <| .there <| .there <| .here) rfl) rfl rfl ?_
              refine .e (.buildA ar22 zv22 rfl rfl) rfl rfl <| .e (.loadW ag22 sz22 rfl (.there <| .there <| .there <| .here) rfl) rfl rfl <| .on rfl <| .callP cal17 rfl rfl rfl ((Room_ok (u := ⟨0, 0, 0⟩) (d := d) hn1).castT (room_zero (u := u) (by simpa using h62))) <| .e (.pickT rfl rfl) rfl rfl <| .e (.pickF rfl rfl) rfl rfl <| .e (.assign rfl) rfl rfl ?_
              refine .nil <| .go <| .ret ?_
              refine .tail <| .tail <| .tail <| .tail <| .tail <| .tail ?_
              refine .tail <| .tail ?_
              refine .back hJ ?_
              refine Post.retE rfl rfl ?_
              simp
        · skip
          replace h38 := of_decide_eq_false h38
          refine .cond_false rfl <| .skip <| .go <| .seq <| .region <| .e (.loadW ag25 sz25 rfl .here rfl) rfl rfl ?_
          refine .e (.loadW ag30 sz30 rfl (.there <| .there <| .there <| .there <| .there <| .here) rfl) rfl rfl <| .on rfl <| .callP cal14 rfl rfl rfl ((Suits_ok (ht0.mono hJ) hn1).castT h24) <| .e (.not rfl) rfl rfl <| .e (.move rfl) rfl rfl <| .e (.loadW ag25 sz25 rfl (.there <| .here) rfl) rfl rfl <| .e (.loadW ag30 sz30 rfl (.there <| .there <| .there <| .there <| .there <| .here) rfl) rfl rfl ?_
          refine .on rfl <| .callP cal14 rfl rfl rfl ((Suits_ok (t := { t with bears := t.bears ++ [p] }) (n := n) ⟨⟨_, _, rfl, htw1, hy0⟩, ht0.name, ht0.needs, ht0.group, ht0.apart, ht0.rank⟩ hn1).castT (suits_more h24)) <| .e (.not rfl) rfl rfl <| .e (.pickF rfl rfl) rfl rfl <| .nil <| .go <| .cond_false rfl ?_
          refine .skip <| .go <| .seq <| .region <| .e (.loadW ag22 sz22 rfl (.there <| .there <| .here) rfl) rfl rfl <| .on rfl <| .alloc zr22 rfl fun c16 _ _ => ?_
          refine .on rfl <| .storeW sz22 rfl rfl rfl rfl rfl rfl .here <| .nil <| .go <| .seq <| .region <| .e (.move rfl) rfl rfl ?_
          refine .e (.rem rfl rfl (by decide) rfl) rfl rfl ?_
          rcases hk3 with e56 | e56 | e56
          · skip
            refine .e (.indexAddrA (j := 0) ar22 rfl rfl e56 (by decide)) rfl rfl <| .on rfl <| .store sz2 rfl rfl rfl rfl rfl rfl .here <| .nil <| .go <| .seq <| .region ?_
            refine .e (.loadW ag30 sz30 rfl (.there <| .there <| .there <| .there <| .there <| .there <| .here) rfl) rfl rfl <| .e (.loadW ag22 sz22 rfl (.there <| .there <| .there <| .there <| .here) rfl) rfl rfl <| .e (.loadW ag22 sz22 rfl (.there <| .there <| .there <| .here) rfl) rfl rfl <| .on rfl <| .callP cal17 rfl rfl rfl (Room_ok (u := u) (d := d) hn1) <| .e (.not rfl) rfl rfl <| .e (.move rfl) rfl rfl ?_
            refine .split 62 rfl (fun h62 => ?_) (fun h62 => ?_)
            · skip
              refine .off rfl rfl <| .off rfl rfl <| .off rfl rfl <| .off rfl rfl <| .off rfl rfl <| .off rfl rfl ?_
              refine .off rfl rfl <| .off rfl rfl <| .off rfl rfl <| .off rfl rfl <| .e (.pickT rfl rfl) rfl rfl <| .e (.assign rfl) rfl rfl ?_
              refine .nil <| .go <| .ret ?_
              refine .tail <| .tail <| .tail <| .tail <| .tail <| .tail ?_
              refine .tail <| .tail ?_
              refine .back hJ ?_
              refine Post.retE rfl rfl ?_
              simp
            · skip
              refine .e (.loadW ag30 sz30 rfl (.there <| .there <| .there <| .there <| .there <| .there <| .here) rfl) rfl rfl <| .e (.loadW ag22 sz22 rfl (.there <| .there <| .there <| .there <| .here) rfl) rfl rfl <| .e (.loadW ag22 sz22 rfl .here rfl) rfl rfl <| .on rfl <| .callP cal17 rfl rfl rfl ((Room_ok (n := n) (u := u) (d := ⟨0, d.b, d.c⟩) hn1).castT (room_less (d := d) (by simpa using h62) (by simp) (by simp) (by simp))) <| .e (.move rfl) rfl rfl <| .e (.loadW ag30 sz30 rfl (.there <| .there <| .there <| .there <| .there <| .there <| .here) rfl) rfl rfl ?_
              refine .e (.buildA ar22 zv22 rfl rfl) rfl rfl <| .e (.loadW ag22 sz22 rfl (.there <| .there <| .there <| .here) rfl) rfl rfl <| .on rfl <| .callP cal17 rfl rfl rfl ((Room_ok (u := ⟨0, 0, 0⟩) (d := d) hn1).castT (room_zero (u := u) (by simpa using h62))) <| .e (.pickT rfl rfl) rfl rfl <| .e (.pickF rfl rfl) rfl rfl <| .e (.assign rfl) rfl rfl ?_
              refine .nil <| .go <| .ret ?_
              refine .tail <| .tail <| .tail <| .tail <| .tail <| .tail ?_
              refine .tail <| .tail ?_
              refine .back hJ ?_
              refine Post.retE rfl rfl ?_
              simp
          · skip
            refine .e (.indexAddrA (j := 1) ar22 rfl rfl e56 (by decide)) rfl rfl <| .on rfl <| .store sz2 rfl rfl rfl rfl rfl rfl .here <| .nil <| .go <| .seq <| .region ?_
            refine .e (.loadW ag30 sz30 rfl (.there <| .there <| .there <| .there <| .there <| .there <| .here) rfl) rfl rfl <| .e (.loadW ag22 sz22 rfl (.there <| .there <| .there <| .there <| .here) rfl) rfl rfl <| .e (.loadW ag22 sz22 rfl (.there <| .there <| .there <| .here) rfl) rfl rfl <| .on rfl <| .callP cal17 rfl rfl rfl (Room_ok (u := u) (d := d) hn1) <| .e (.not rfl) rfl rfl <| .e (.move rfl) rfl rfl ?_
            refine .split 62 rfl (fun h62 => ?_) (fun h62 => ?_)
            · skip
              refine .off rfl rfl <| .off rfl rfl <| .off rfl rfl <| .off rfl rfl <| .off rfl rfl <| .off rfl rfl ?_
              refine .off rfl rfl <| .off rfl rfl <| .off rfl rfl <| .off rfl rfl <| .e (.pickT rfl rfl) rfl rfl <| .e (.assign rfl) rfl rfl ?_
              refine .nil <| .go <| .ret ?_
              refine .tail <| .tail <| .tail <| .tail <| .tail <| .tail ?_
              refine .tail <| .tail ?_
              refine .back hJ ?_
              refine Post.retE rfl rfl ?_
              simp
            · skip
              refine .e (.loadW ag30 sz30 rfl (.there <| .there <| .there <| .there <| .there <| .there <| .here) rfl) rfl rfl <| .e (.loadW ag22 sz22 rfl (.there <| .there <| .there <| .there <| .here) rfl) rfl rfl <| .e (.loadW ag22 sz22 rfl .here rfl) rfl rfl <| .on rfl <| .callP cal17 rfl rfl rfl ((Room_ok (n := n) (u := u) (d := ⟨d.a, 0, d.c⟩) hn1).castT (room_less (d := d) (by simpa using h62) (by simp) (by simp) (by simp))) <| .e (.move rfl) rfl rfl <| .e (.loadW ag30 sz30 rfl (.there <| .there <| .there <| .there <| .there <| .there <| .here) rfl) rfl rfl ?_
              refine .e (.buildA ar22 zv22 rfl rfl) rfl rfl <| .e (.loadW ag22 sz22 rfl (.there <| .there <| .there <| .here) rfl) rfl rfl <| .on rfl <| .callP cal17 rfl rfl rfl ((Room_ok (u := ⟨0, 0, 0⟩) (d := d) hn1).castT (room_zero (u := u) (by simpa using h62))) <| .e (.pickT rfl rfl) rfl rfl <| .e (.pickF rfl rfl) rfl rfl <| .e (.assign rfl) rfl rfl ?_
              refine .nil <| .go <| .ret ?_
              refine .tail <| .tail <| .tail <| .tail <| .tail <| .tail ?_
              refine .tail <| .tail ?_
              refine .back hJ ?_
              refine Post.retE rfl rfl ?_
              simp
          · skip
            refine .e (.indexAddrA (j := 2) ar22 rfl rfl e56 (by decide)) rfl rfl <| .on rfl <| .store sz2 rfl rfl rfl rfl rfl rfl .here <| .nil <| .go <| .seq <| .region ?_
            refine .e (.loadW ag30 sz30 rfl (.there <| .there <| .there <| .there <| .there <| .there <| .here) rfl) rfl rfl <| .e (.loadW ag22 sz22 rfl (.there <| .there <| .there <| .there <| .here) rfl) rfl rfl <| .e (.loadW ag22 sz22 rfl (.there <| .there <| .there <| .here) rfl) rfl rfl <| .on rfl <| .callP cal17 rfl rfl rfl (Room_ok (u := u) (d := d) hn1) <| .e (.not rfl) rfl rfl <| .e (.move rfl) rfl rfl ?_
            refine .split 62 rfl (fun h62 => ?_) (fun h62 => ?_)
            · skip
              refine .off rfl rfl <| .off rfl rfl <| .off rfl rfl <| .off rfl rfl <| .off rfl rfl <| .off rfl rfl ?_
              refine .off rfl rfl <| .off rfl rfl <| .off rfl rfl <| .off rfl rfl <| .e (.pickT rfl rfl) rfl rfl <| .e (.assign rfl) rfl rfl ?_
              refine .nil <| .go <| .ret ?_
              refine .tail <| .tail <| .tail <| .tail <| .tail <| .tail ?_
              refine .tail <| .tail ?_
              refine .back hJ ?_
              refine Post.retE rfl rfl ?_
              simp
            · skip
              refine .e (.loadW ag30 sz30 rfl (.there <| .there <| .there <| .there <| .there <| .there <| .here) rfl) rfl rfl <| .e (.loadW ag22 sz22 rfl (.there <| .there <| .there <| .there <| .here) rfl) rfl rfl <| .e (.loadW ag22 sz22 rfl .here rfl) rfl rfl <| .on rfl <| .callP cal17 rfl rfl rfl ((Room_ok (n := n) (u := u) (d := ⟨d.a, d.b, 0⟩) hn1).castT (room_less (d := d) (by simpa using h62) (by simp) (by simp) (by simp))) <| .e (.move rfl) rfl rfl <| .e (.loadW ag30 sz30 rfl (.there <| .there <| .there <| .there <| .there <| .there <| .here) rfl) rfl rfl ?_
              refine .e (.buildA ar22 zv22 rfl rfl) rfl rfl <| .e (.loadW ag22 sz22 rfl (.there <| .there <| .there <| .here) rfl) rfl rfl <| .on rfl <| .callP cal17 rfl rfl rfl ((Room_ok (u := ⟨0, 0, 0⟩) (d := d) hn1).castT (room_zero (u := u) (by simpa using h62))) <| .e (.pickT rfl rfl) rfl rfl <| .e (.pickF rfl rfl) rfl rfl <| .e (.assign rfl) rfl rfl ?_
              refine .nil <| .go <| .ret ?_
              refine .tail <| .tail <| .tail <| .tail <| .tail <| .tail ?_
              refine .tail <| .tail ?_
              refine .back hJ ?_
              refine Post.retE rfl rfl ?_
              simp
  · skip
    refine .cond_false rfl <| .skip <| .go <| .seq <| .region <| .e (.loadW ag22 sz22 rfl .here rfl) rfl rfl ?_
    refine .on rfl <| .alloc zr22 rfl fun c17 _ _ => .on rfl <| .storeW sz22 rfl rfl rfl rfl rfl rfl .here <| .nil <| .go <| .seq <| .region ?_
    refine .e (.move rfl) rfl rfl <| .e (.rem rfl rfl (by decide) rfl) rfl rfl ?_
    rcases hk3 with e56 | e56 | e56
    · skip
      refine .e (.indexAddrA (j := 0) ar22 rfl rfl e56 (by decide)) rfl rfl <| .on rfl <| .store sz2 rfl rfl rfl rfl rfl rfl .here <| .nil <| .go <| .seq <| .region ?_
      refine .e (.loadW ag30 sz30 rfl (.there <| .there <| .there <| .there <| .here) rfl) rfl rfl <| .e (.loadW ag22 sz22 rfl (.there <| .there <| .here) rfl) rfl rfl <| .e (.loadW ag22 sz22 rfl (.there <| .here) rfl) rfl rfl <| .on rfl <| .callP cal17 rfl rfl rfl (Room_ok (u := u) (d := d) hn0) <| .e (.not rfl) rfl rfl <| .e (.move rfl) rfl rfl ?_
      refine .split 62 rfl (fun h62 => ?_) (fun h62 => ?_)
      · skip
        refine .off rfl rfl <| .off rfl rfl <| .off rfl rfl <| .off rfl rfl <| .off rfl rfl <| .off rfl rfl ?_
        refine .off rfl rfl <| .off rfl rfl <| .off rfl rfl <| .off rfl rfl <| .e (.pickT rfl rfl) rfl rfl <| .e (.assign rfl) rfl rfl ?_
        refine .nil <| .go <| .ret ?_
        refine .tail <| .tail <| .tail <| .tail <| .tail <| .tail ?_
        refine Post.retE rfl rfl ?_
        simp
      · skip
        refine .e (.loadW ag30 sz30 rfl (.there <| .there <| .there <| .there <| .here) rfl) rfl rfl <| .e (.loadW ag22 sz22 rfl (.there <| .there <| .here) rfl) rfl rfl <| .e (.loadW ag22 sz22 rfl .here rfl) rfl rfl <| .on rfl <| .callP cal17 rfl rfl rfl ((Room_ok (n := n) (u := u) (d := ⟨0, d.b, d.c⟩) hn0).castT (room_less (d := d) (by simpa using h62) (by simp) (by simp) (by simp))) <| .e (.move rfl) rfl rfl <| .e (.loadW ag30 sz30 rfl (.there <| .there <| .there <| .there <| .here) rfl) rfl rfl ?_
        refine .e (.buildA ar22 zv22 rfl rfl) rfl rfl <| .e (.loadW ag22 sz22 rfl (.there <| .here) rfl) rfl rfl <| .on rfl <| .callP cal17 rfl rfl rfl ((Room_ok (u := ⟨0, 0, 0⟩) (d := d) hn0).castT (room_zero (u := u) (by simpa using h62))) <| .e (.pickT rfl rfl) rfl rfl <| .e (.pickF rfl rfl) rfl rfl <| .e (.assign rfl) rfl rfl ?_
        refine .nil <| .go <| .ret ?_
        refine .tail <| .tail <| .tail <| .tail <| .tail <| .tail ?_
        refine Post.retE rfl rfl ?_
        simp
    · skip
      refine .e (.indexAddrA (j := 1) ar22 rfl rfl e56 (by decide)) rfl rfl <| .on rfl <| .store sz2 rfl rfl rfl rfl rfl rfl .here <| .nil <| .go <| .seq <| .region ?_
      refine .e (.loadW ag30 sz30 rfl (.there <| .there <| .there <| .there <| .here) rfl) rfl rfl <| .e (.loadW ag22 sz22 rfl (.there <| .there <| .here) rfl) rfl rfl <| .e (.loadW ag22 sz22 rfl (.there <| .here) rfl) rfl rfl <| .on rfl <| .callP cal17 rfl rfl rfl (Room_ok (u := u) (d := d) hn0) <| .e (.not rfl) rfl rfl <| .e (.move rfl) rfl rfl ?_
      refine .split 62 rfl (fun h62 => ?_) (fun h62 => ?_)
      · skip
        refine .off rfl rfl <| .off rfl rfl <| .off rfl rfl <| .off rfl rfl <| .off rfl rfl <| .off rfl rfl ?_
        refine .off rfl rfl <| .off rfl rfl <| .off rfl rfl <| .off rfl rfl <| .e (.pickT rfl rfl) rfl rfl <| .e (.assign rfl) rfl rfl ?_
        refine .nil <| .go <| .ret ?_
        refine .tail <| .tail <| .tail <| .tail <| .tail <| .tail ?_
        refine Post.retE rfl rfl ?_
        simp
      · skip
        refine .e (.loadW ag30 sz30 rfl (.there <| .there <| .there <| .there <| .here) rfl) rfl rfl <| .e (.loadW ag22 sz22 rfl (.there <| .there <| .here) rfl) rfl rfl <| .e (.loadW ag22 sz22 rfl .here rfl) rfl rfl <| .on rfl <| .callP cal17 rfl rfl rfl ((Room_ok (n := n) (u := u) (d := ⟨d.a, 0, d.c⟩) hn0).castT (room_less (d := d) (by simpa using h62) (by simp) (by simp) (by simp))) <| .e (.move rfl) rfl rfl <| .e (.loadW ag30 sz30 rfl (.there <| .there <| .there <| .there <| .here) rfl) rfl rfl ?_
        refine .e (.buildA ar22 zv22 rfl rfl) rfl rfl <| .e (.loadW ag22 sz22 rfl (.there <| .here) rfl) rfl rfl <| .on rfl <| .callP cal17 rfl rfl rfl ((Room_ok (u := ⟨0, 0, 0⟩) (d := d) hn0).castT (room_zero (u := u) (by simpa using h62))) <| .e (.pickT rfl rfl) rfl rfl <| .e (.pickF rfl rfl) rfl rfl <| .e (.assign rfl) rfl rfl ?_
        refine .nil <| .go <| .ret ?_
        refine .tail <| .tail <| .tail <| .tail <| .tail <| .tail ?_
        refine Post.retE rfl rfl ?_
        simp
    · skip
      refine .e (.indexAddrA (j := 2) ar22 rfl rfl e56 (by decide)) rfl rfl <| .on rfl <| .store sz2 rfl rfl rfl rfl rfl rfl .here <| .nil <| .go <| .seq <| .region ?_
      refine .e (.loadW ag30 sz30 rfl (.there <| .there <| .there <| .there <| .here) rfl) rfl rfl <| .e (.loadW ag22 sz22 rfl (.there <| .there <| .here) rfl) rfl rfl <| .e (.loadW ag22 sz22 rfl (.there <| .here) rfl) rfl rfl <| .on rfl <| .callP cal17 rfl rfl rfl (Room_ok (u := u) (d := d) hn0) <| .e (.not rfl) rfl rfl <| .e (.move rfl) rfl rfl ?_
      refine .split 62 rfl (fun h62 => ?_) (fun h62 => ?_)
      · skip
        refine .off rfl rfl <| .off rfl rfl <| .off rfl rfl <| .off rfl rfl <| .off rfl rfl <| .off rfl rfl ?_
        refine .off rfl rfl <| .off rfl rfl <| .off rfl rfl <| .off rfl rfl <| .e (.pickT rfl rfl) rfl rfl <| .e (.assign rfl) rfl rfl ?_
        refine .nil <| .go <| .ret ?_
        refine .tail <| .tail <| .tail <| .tail <| .tail <| .tail ?_
        refine Post.retE rfl rfl ?_
        simp
      · skip
        refine .e (.loadW ag30 sz30 rfl (.there <| .there <| .there <| .there <| .here) rfl) rfl rfl <| .e (.loadW ag22 sz22 rfl (.there <| .there <| .here) rfl) rfl rfl <| .e (.loadW ag22 sz22 rfl .here rfl) rfl rfl <| .on rfl <| .callP cal17 rfl rfl rfl ((Room_ok (n := n) (u := u) (d := ⟨d.a, d.b, 0⟩) hn0).castT (room_less (d := d) (by simpa using h62) (by simp) (by simp) (by simp))) <| .e (.move rfl) rfl rfl <| .e (.loadW ag30 sz30 rfl (.there <| .there <| .there <| .there <| .here) rfl) rfl rfl ?_
        refine .e (.buildA ar22 zv22 rfl rfl) rfl rfl <| .e (.loadW ag22 sz22 rfl (.there <| .here) rfl) rfl rfl <| .on rfl <| .callP cal17 rfl rfl rfl ((Room_ok (u := ⟨0, 0, 0⟩) (d := d) hn0).castT (room_zero (u := u) (by simpa using h62))) <| .e (.pickT rfl rfl) rfl rfl <| .e (.pickF rfl rfl) rfl rfl <| .e (.assign rfl) rfl rfl ?_
        refine .nil <| .go <| .ret ?_
        refine .tail <| .tail <| .tail <| .tail <| .tail <| .tail ?_
        refine Post.retE rfl rfl ?_
        simp

end Go.Proofs.Ytamgiiohaojelaa
