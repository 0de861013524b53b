/- log.Members: a range over slices.Backward of the log's entries: what it answers is memR; nothing that lay has turned. -/
import Derived.RangeFuncNested
import Derived.RangeFuncLeaves
import Derived.RangeFuncCalls
import Derived.RangeFuncBound
import Derived.Shelf.Abstract
import Derived.Shelf.RegionOpen
import Derived.WalkKit
import Derived.OwnWalkIn
import Derived.TacticsInMore
import Derived.LoopNIn
import Derived.LoopIn
import Derived.Test.YteajcmnbjpbnpaaSyO
import Derived.Test.YteajcmnbjpbnpaaLw
namespace Go.Proofs.Yteajcmnbjpbnpaa
open Go Go.Sy Go.Proofs Go.RowKit Go.Shelf
attribute [local go_sem] Oper.semAt_some
set_option linter.unusedSimpArgs false
set_option linter.unusedVariables false
/-- What has come when k rounds are over: n - 1, n - 2, .. -/
def bTo' (n k : Nat) : List Nat := (List.range k).map fun q => n - 1 - q
theorem bTo'_succ (n k : Nat) : bTo' n (k + 1) = bTo' n k ++ [n - 1 - k] := by simp [bTo', List.range_succ]
theorem bTo'_length (n k : Nat) : (bTo' n k).length = k := by simp [bTo']
def encE (E : Nat → Ent) (M : Nat → Value) (j : Nat) : Array Value := #[.int .i64 (j : Int), .agg ⟨(E j).cells (M j)⟩]
theorem ld5 {W : World} {b o : Nat} {e : Ent} {mv : Value} (h0 : W.cell? ⟨b, o, none⟩ = some (.int .u64 e.index)) (h1 : W.cell? ⟨b, o + 1, none⟩ = some (.int .u64 e.term)) (h2 : W.cell? ⟨b, o + 2, none⟩ = some (.int .u8 e.kind))
    (h3 : W.cell? ⟨b, o + 3, none⟩ = some (.string e.data)) (h4 : W.cell? ⟨b, o + 4, none⟩ = some mv) : (loadVar 41 ⟨b, o, none⟩).run Try.prog W = .ok (.agg #[.int .u64 e.index, .int .u64 e.term, .int .u8 e.kind, .string e.data, mv]) W := by
  refine run_loadVar_agg (cs := e.cells mv) ag41 sz41 rfl fun j v hv => ?_
  match j, hv with
  | 0, hv => cases hv; exact h0
  | 1, hv => cases hv; exact h1
  | 2, hv => cases hv; exact h2
  | 3, hv => cases hv; exact h3
  | 4, hv => cases hv; exact h4
  | j + 5, hv => simp [Ent.cells] at hv
set_option maxRecDepth 100000 in
set_option maxHeartbeats 4000000 in
theorem back1_in (n : Nat) (hn : 1 ≤ n) (l Bs nB b off len cap : Nat) (E : Nat → Ent) (M : Nat → Value) (ad : Option Addr) (had : 0 < len → ad = some ⟨b, off, none⟩) (hlen : len ≤ 9223372036854775807) (hb : b < nB) (hBn : Bs < nB) (J Jx : List Nat → World → Prop)
    (hY : ∀ pre x W, J pre W → pre.length < len → YieldAt Fence.wide (n - 1) Try.prog l (encE E M x) W fun e W' =>
      (e = .returned (.bool true) ∧ J (pre ++ [x]) W' ∧ Below nB W W') ∨ (e = .returned (.bool false) ∧ Jx (pre ++ [x]) W'))
    (W : World) (hBs : W.cell? ⟨Bs, 0, none⟩ = some (.slice ad len cap))
    (hc : ∀ j, j < len → W.cell? ⟨b, off + j * 5, none⟩ = some (.int .u64 (E j).index) ∧ W.cell? ⟨b, off + j * 5 + 1, none⟩ = some (.int .u64 (E j).term) ∧ W.cell? ⟨b, off + j * 5 + 2, none⟩ = some (.int .u8 (E j).kind) ∧ W.cell? ⟨b, off + j * 5 + 3, none⟩ = some (.string (E j).data) ∧ W.cell? ⟨b, off + j * 5 + 4, none⟩ = some (M j)) (h0 : J [] W) :
    CallsIn Fence.wide n Try.prog 47 #[.func (.yield l) #[] #[], .pointer (some ⟨Bs, 0, none⟩)] W fun e W' => (∃ v, e = .returned v) ∧
      ((∃ ys, ys = bTo' len len ∧ J ys W') ∨ (∃ pre, (∃ k, k ≤ len ∧ pre = bTo' len k) ∧ Jx pre W')) := by
  refine callsIn_of_wp Try.func47 rfl trivial ?_ rfl
  simp only [Try.ntmps47, List.size_toArray, List.length_cons, List.length_nil, Nat.reduceAdd, Nat.reduceSub, Array.replicate_succ, Array.replicate_zero, List.push_toArray, List.append_toArray, List.nil_append, List.cons_append]
  gi_wp2
  gi_loopw [3] (fun i wr => ∃ k m : Nat, k + m = len ∧ i = .int .i64 ((m : Int) - 1) ∧ J (bTo' len k) wr ∧ Below nB W wr)
    (fun i _ => (intOf i + 1).toNat)
  case atStart => exact ⟨0, len, Nat.zero_add _, rfl, h0, Below.refl _ _⟩
  case round =>
    obtain ⟨k, m, hkm, rfl, hJs, hnx⟩ := hrel
    have hBx : wr.cell? ⟨Bs, 0, none⟩ = some (.slice ad len cap) := (hnx.cell (p := ⟨Bs, 0, none⟩) hBn).trans hBs
    cases m with
    | zero =>
      obtain rfl : k = len := by omega
      gi_wp2
      go_end0
      exact ⟨⟨_, rfl⟩, .inl ⟨_, rfl, hJs⟩⟩
    | succ j =>
      obtain rfl := had (by omega)
      have ei : ((j + 1 : Nat) : Int) - 1 = (j : Int) := by omega
      rw [ei]
      have hjl : (j : Int) < (len : Int) := by omega
      have ej : len - 1 - k = j := by omega
      obtain ⟨c0, c1, c2, c3, c4⟩ := hc j (by omega)
      have q0 := (hnx.cell (p := ⟨b, off + j * 5, none⟩) hb).trans c0
      have q1 := (hnx.cell (p := ⟨b, off + j * 5 + 1, none⟩) hb).trans c1
      have q2 := (hnx.cell (p := ⟨b, off + j * 5 + 2, none⟩) hb).trans c2
      have q3 := (hnx.cell (p := ⟨b, off + j * 5 + 3, none⟩) hb).trans c3
      have q4 := (hnx.cell (p := ⟨b, off + j * 5 + 4, none⟩) hb).trans c4
      have hld := ld5 q0 q1 q2 q3 q4
      obtain ⟨fn, tmps, assign, body, hy, hR⟩ := hY _ j wr hJs (by rw [bTo'_length]; omega)
      rw [encE] at hy
      dsimp only [Ent.cells] at hy
      gi_wp2
      refine hR.mono ?_
      rintro e W3 (⟨rfl, hJ3, hk3⟩ | ⟨rfl, hJx3⟩)
      · gi_wp2
        go_roundw
        case rel => exact ⟨k + 1, j, by omega, (by first | rfl | simp), by rw [bTo'_succ, ej]; exact hJ3, hnx.trans hk3⟩
        case measure => first | (simp [intOf]; done) | (simp [intOf]; omega)
      · gi_wp2
        refine bodyPost_ret (results_none rfl _ _ _) rfl ?_
        exact ⟨⟨_, rfl⟩, .inr ⟨_, ⟨k + 1, by omega, by rw [bTo'_succ, ej]⟩, hJx3⟩⟩
set_option maxHeartbeats 1000000 in
theorem back_in (n : Nat) (a : Option Addr) (len cap : Nat) (w : World) :
    CallsIn Fence.wide n Try.prog 42 #[.slice a len cap] w fun e w' => e = .returned (.func (.func 47) #[] #[.pointer (some ⟨w.heap.size, 0, none⟩)]) ∧ w' = w.alloc (.cells #[.slice a len cap] 23) := by
  refine callsIn_of_wp Try.func42 rfl trivial ?_ rfl
  simp only [Try.ntmps42, List.size_toArray, List.length_cons, List.length_nil, Nat.reduceAdd, Nat.reduceSub, Array.replicate_succ, Array.replicate_zero, List.push_toArray, List.append_toArray, List.nil_append, List.cons_append]
  gi_wp2
  go_ret
  exact ⟨rfl, rfl⟩
theorem back_stops (n : Nat) (hn : 1 ≤ n) (Bs nB b off len cap : Nat) (E : Nat → Ent) (M : Nat → Value) (ad : Option Addr) (had : 0 < len → ad = some ⟨b, off, none⟩) (hlen : len ≤ 9223372036854775807) (hb : b < nB) (hBn : Bs < nB) (w : World) (hnB : nB ≤ w.heap.size)
    (hBs : w.cell? ⟨Bs, 0, none⟩ = some (.slice ad len cap))
    (hc : ∀ j, j < len → w.cell? ⟨b, off + j * 5, none⟩ = some (.int .u64 (E j).index) ∧ w.cell? ⟨b, off + j * 5 + 1, none⟩ = some (.int .u64 (E j).term) ∧ w.cell? ⟨b, off + j * 5 + 2, none⟩ = some (.int .u8 (E j).kind) ∧ w.cell? ⟨b, off + j * 5 + 3, none⟩ = some (.string (E j).data) ∧ w.cell? ⟨b, off + j * 5 + 4, none⟩ = some (M j)) :
    SeqStopsK Fence.wide n Try.prog 47 #[.pointer (some ⟨Bs, 0, none⟩)] (encE E M) (Below nB) (fun ys => ys = bTo' len len) (fun pre => ∃ k, k ≤ len ∧ pre = bTo' len k) len w := fun l J Jx W hW _ _ hY h0 => by
  have hW2 := hW.mono hnB
  refine back1_in n hn l Bs nB b off len cap E M ad had hlen hb hBn J Jx hY W ((hW2.cell (p := ⟨Bs, 0, none⟩) hBn).trans hBs) (fun j hj => ?_) h0
  obtain ⟨c0, c1, c2, c3, c4⟩ := hc j hj
  exact ⟨(hW2.cell (p := ⟨b, off + j * 5, none⟩) hb).trans c0, (hW2.cell (p := ⟨b, off + j * 5 + 1, none⟩) hb).trans c1, (hW2.cell (p := ⟨b, off + j * 5 + 2, none⟩) hb).trans c2, (hW2.cell (p := ⟨b, off + j * 5 + 3, none⟩) hb).trans c3, (hW2.cell (p := ⟨b, off + j * 5 + 4, none⟩) hb).trans c4⟩
/-! what a call hands over, and what it keeps -/
/-- A slice of ints in a row of its own, beyond n0. -/
def OwnIn (n0 : Nat) (W : World) (u : Value) (xs : List Int) : Prop := ∃ ws ob, OwnS 1 u xs.length ws ob ∧ DR I64R 1 (snap W) ws xs ∧ ∀ x ∈ ob, n0 ≤ x.1 ∧ W.heap[x.1]? = some x.2 ∧ x.2.isCells = true
theorem OwnIn.nil {n0 : Nat} {W : World} : OwnIn n0 W (.slice none 0 0) [] := ⟨[], [], OwnS.nil, DR.nil, fun x hx => by cases hx⟩
theorem OwnIn.mono {n0 n1 : Nat} {W : World} {u : Value} {xs : List Int} (hn : n1 ≤ n0) (h : OwnIn n0 W u xs) : OwnIn n1 W u xs := by
  obtain ⟨ws, ob, h1, h2, h3⟩ := h
  exact ⟨ws, ob, h1, h2, fun x hx => ⟨Nat.le_trans hn (h3 x hx).1, (h3 x hx).2⟩⟩
theorem OwnIn.kept {n0 : Nat} {W W' : World} {u : Value} {xs : List Int} {row : Option Nat} (h : OwnIn n0 W u xs) (hg : W.grownBy W' row) (hrow : ∀ r, row = some r → ∃ o : Obj, W.heap[r]? = some o ∧ o.isCells = false) : OwnIn n0 W' u xs := by
  obtain ⟨ws, ob, h1, h2, h3⟩ := h
  refine ⟨ws, ob, h1, h2.mono fun _ _ h => h, fun x hx => ?_⟩
  obtain ⟨a, b, c⟩ := h3 x hx
  exact ⟨a, (grownBy_keeps_cells hg hrow b c).trans b, c⟩
theorem OwnIn.setCell {n0 : Nat} {W : World} {u v : Value} {xs : List Int} {b : Nat} (h : OwnIn n0 W u xs) (hb : b < n0) : OwnIn n0 (W.setCell ⟨b, 0, none⟩ v) u xs := by
  obtain ⟨ws, ob, h1, h2, h3⟩ := h
  refine ⟨ws, ob, h1, h2.mono fun _ _ h => h, fun x hx => ?_⟩
  obtain ⟨a, c, d⟩ := h3 x hx
  exact ⟨a, (Below.heap_setCell _ _ _ _ (by dsimp only; omega)).trans c, d⟩
theorem ownS_cells {k m : Nat} {v : Value} {ws : List Value} {ob : Go.Sy.Own} (h : OwnS k v m ws ob) : ∀ x ∈ ob, x.2.isCells = true := by
  rcases h with ⟨_, _, _, rfl⟩ | ⟨b, cap, cs, T, _, rfl, _⟩
  · intro x hx; cases hx
  · intro x hx
    rw [List.mem_singleton] at hx
    subst hx; rfl
theorem keeps_of_sat {W w' : World} {I' : Imm} {O : Go.Sy.Own} (h : Sat w' I' O) (hI : (snap W).le I') : KeepsOthers W w' :=
  ⟨(below_of_sat (h.sub (Imm.le_refl I') (fun x hx => by cases hx) List.nodup_nil) hI).size, fun k o hk _ => h.imm k o (hI.row k o hk)⟩
theorem clone_in {v : Value} {l : List Int} (W : World) (hv : IntsR (snap W) v l) (hL : l.length * 8 ≤ 140737488351232) : Calls Try.prog 43 #[v] W fun e W' => ∃ u, e = .returned u ∧ OwnIn W.heap.size W' u l ∧ Below W.heap.size W W' ∧ KeepsOthers W W' :=
  (cloneInt_ok (O := []) hv hL W (sat_snap W)).mono fun e W' ⟨u, I', O', he, hI, hs, hq, ws, ob, ho, hd, hO⟩ => by
    subst hq hO
    rw [List.append_nil] at hs
    refine ⟨u, he, ⟨ws, ob, ho, hd.mono fun _ _ h => h, fun x hx => ⟨?_, hs.own x.1 x.2 hx, ownS_cells ho x hx⟩⟩, below_of_sat (hs.sub (Imm.le_refl _) (fun x hx => by cases hx) List.nodup_nil) hI, keeps_of_sat hs hI⟩
    have := hs.apart x.1 x.2 hx
    have h2 : W.heap[x.1]? = none := this
    rw [Array.getElem?_eq_none_iff] at h2
    exact h2
theorem chk_in {lc : List Value} {l : Lg} (W : World) (hl : LgR (snap W) lc l) : Calls Try.prog 18 #[.agg ⟨lc⟩] W fun e W' => e = .returned (.int .i64 (logWhy l)) ∧ Below W.heap.size W W' ∧ KeepsOthers W W' :=
  (lCheck_ok (O := []) hl W (sat_snap W)).mono fun e W' ⟨u, I', O', he, hI, hs, hv, hq, hO⟩ => by
    subst hv hq hO
    exact ⟨he, below_of_sat hs hI, keeps_of_sat hs hI⟩
theorem le_of_below {w W : World} (h : Below w.heap.size w W) : (snap w).le (snap W) := ⟨fun b o e => by
  have e' : w.heap[b]? = some o := e
  show W.heap[b]? = some o
  rw [h.block b (Array.getElem?_eq_some_iff.1 e').1]; exact e', by
  show W.env = w.env
  unfold World.env
  rw [h.os, h.tape, h.output]⟩
theorem blk_keep {n k : Nat} {o : Obj} {W W' : World} (h : Below n W W') (hk : k < n) (e : W.heap[k]? = some o) : W'.heap[k]? = some o := (h.block k hk).trans e
abbrev slF (f : Nat → Option Addr × Nat × Nat) (j : Nat) : Value := .slice (f j).1 (f j).2.1 (f j).2.2
theorem rows_of {w : World} {ev : Value} {es : List Ent} (h : EntsR (snap w) ev es) : ∃ (ad : Option Addr) (cap b off : Nat) (f : Nat → Option Addr × Nat × Nat), ev = .slice ad es.length cap ∧ es.length ≤ 9223372036854775807 ∧ (0 < es.length → ad = some ⟨b, off, none⟩) ∧ b ≤ w.heap.size ∧ (∀ j, j < es.length →
    w.cell? ⟨b, off + j * 5, none⟩ = some (.int .u64 (es.getD j ent0).index) ∧ w.cell? ⟨b, off + j * 5 + 1, none⟩ = some (.int .u64 (es.getD j ent0).term) ∧ w.cell? ⟨b, off + j * 5 + 2, none⟩ = some (.int .u8 (es.getD j ent0).kind) ∧ w.cell? ⟨b, off + j * 5 + 3, none⟩ = some (.string (es.getD j ent0).data) ∧ w.cell? ⟨b, off + j * 5 + 4, none⟩ = some (slF f j)) ∧
    ∀ j, IntsR (snap w) (slF f j) (es.getD j ent0).members := by
  obtain ⟨ws, ⟨ad, cap, e, hs⟩, hd⟩ := SlR.src (B := []) (fun _ _ h => EntR.len h) h
  obtain ⟨ad0, cap0, e0, hc1, hc2, _⟩ := h
  have key : ∀ j, ∃ t : Option Addr × Nat × Nat, (j < es.length → (ws.drop (j * 5)).take 5 = (es.getD j ent0).cells (.slice t.1 t.2.1 t.2.2)) ∧ IntsR (snap w) (.slice t.1 t.2.1 t.2.2) (es.getD j ent0).members := fun j => by
    by_cases hj : j < es.length
    · rw [entD hj]
      obtain ⟨mv, h1, h2⟩ := (hd.2 j es[j] (List.getElem?_eq_getElem hj)).ex
      have h3 := h2
      obtain ⟨a, c, rfl, _⟩ := h3
      exact ⟨(a, _, c), fun _ => h1, h2⟩
    · refine ⟨(none, 0, 0), fun h => absurd h hj, ?_⟩
      rw [List.getD_eq_getElem?_getD, List.getElem?_eq_none (by omega)]
      exact SlR.nil
  obtain ⟨f, hf⟩ := Classical.axiomOfChoice key
  have hlen : es.length ≤ 9223372036854775807 := Nat.le_trans hc1 hc2
  rcases hs with rfl | ⟨b, off, rfl, hs⟩
  · have h0 : es.length = 0 := by have := hd.1; simp at this; omega
    exact ⟨ad, cap, 0, 0, f, e, hlen, fun h => by omega, Nat.zero_le _, fun j hj => by omega, fun j => (hf j).2⟩
  · rcases hs with hs | ⟨cs, T, fz, hb, _⟩
    · rcases hs with rfl | ⟨arr, T, fz, hb, hc⟩
      · have h0 : es.length = 0 := by have := hd.1; simp at this; omega
        exact ⟨_, cap, 0, 0, f, e, hlen, fun h => by omega, Nat.zero_le _, fun j hj => by omega, fun j => (hf j).2⟩
      · have hb' : w.heap[b]? = some (.cells arr T fz) := hb
        refine ⟨_, cap, b, off, f, e, hlen, fun _ => rfl, Nat.le_of_lt (Array.getElem?_eq_some_iff.1 hb').1, fun j hj => ?_, fun j => (hf j).2⟩
        have h1 := (hf j).1 hj
        have q : ∀ r v, r < 5 → ((es.getD j ent0).cells (slF f j))[r]? = some v → w.cell? ⟨b, off + j * 5 + r, none⟩ = some v := fun r v hr hv => by
          rw [← h1, List.getElem?_take_of_lt hr, List.getElem?_drop] at hv
          have := hc _ _ hv
          simp only [World.cell?, hb']
          rw [show off + j * 5 + r = off + (j * 5 + r) by omega]
          simpa using this
        exact ⟨q 0 _ (by decide) rfl, q 1 _ (by decide) rfl, q 2 _ (by decide) rfl, q 3 _ (by decide) rfl, q 4 _ (by decide) rfl⟩
    · cases hb
set_option maxRecDepth 100000 in
set_option maxHeartbeats 8000000 in
theorem mem_in {l : Lg} {i : Int} {v ev : Value} {b : List Int} (w : World) (hl : LgR (snap w) (l.cells ev) l) (hb : IntsR (snap w) v b) (hB : b.length * 8 ≤ 140737488351232) (hM : ∀ e ∈ l.ents, e.members.length * 8 ≤ 140737488351232) :
    Calls Try.prog 27 #[.agg #[.int .u64 l.base, .int .u64 l.term, ev], .int .u64 i, v] w fun e w' => ∃ u, e = .returned (.tuple #[u, .int .i64 (memR l i b).2]) ∧ OwnIn w.heap.size w' u (memR l i b).1 ∧ Below w.heap.size w w' := by
  refine (callsIn_wide (n := 9)).1 ?_
  refine callsIn_of_wp_marks Try.func27 rfl trivial ?_ rfl
  simp only [Try.ntmps27, List.size_toArray, List.length_cons, List.length_nil, Nat.reduceAdd, Nat.reduceSub, Array.replicate_succ, Array.replicate_zero, List.push_toArray, List.append_toArray, List.nil_append, List.cons_append]
  gi_wp2
  refine ⟨trivial, ?_⟩
  have b0 : (((((w.alloc (.cells #[.int .u64 l.base, .int .u64 l.term, ev] 25)).alloc (.cells #[.int .u64 i] 22)).alloc (.cells #[.slice none 0 0] 39)).alloc (.cells #[.int .i64 0] 28))).heap[w.heap.size]? = some (.cells #[.int .u64 l.base, .int .u64 l.term, ev] 25 (0, 0)) := by
    show ((((w.heap.push _).push _).push _).push _)[w.heap.size]? = _
    simp only [Array.getElem?_push, Array.size_push]
    rw [if_neg (by omega), if_neg (by omega), if_neg (by omega)]
    exact if_pos trivial
  have b1 := ((Boxed.new (w.alloc (.cells #[.int .u64 l.base, .int .u64 l.term, ev] 25)) 22 (.int .u64 i)).alloc (.cells #[.slice none 0 0] 39)).alloc (.cells #[.int .i64 0] 28)
  have b2 := (Boxed.new ((w.alloc (.cells #[.int .u64 l.base, .int .u64 l.term, ev] 25)).alloc (.cells #[.int .u64 i] 22)) 39 (.slice none 0 0)).alloc (.cells #[.int .i64 0] 28)
  have b3 := Boxed.new (((w.alloc (.cells #[.int .u64 l.base, .int .u64 l.term, ev] 25)).alloc (.cells #[.int .u64 i] 22)).alloc (.cells #[.slice none 0 0] 39)) 28 (.int .i64 0)
  simp only [World.size_alloc] at b1 b2 b3
  have hB0 : Below w.heap.size w ((((w.alloc (.cells #[.int .u64 l.base, .int .u64 l.term, ev] 25)).alloc (.cells #[.int .u64 i] 22)).alloc (.cells #[.slice none 0 0] 39)).alloc (.cells #[.int .i64 0] 28)) := ((((Below.refl _ w).alloc (Nat.le_refl _) _).alloc (by simp) _).alloc (by simp; omega) _).alloc (by simp; omega) _
  have hs0 : ((((w.alloc (.cells #[.int .u64 l.base, .int .u64 l.term, ev] 25)).alloc (.cells #[.int .u64 i] 22)).alloc (.cells #[.slice none 0 0] 39)).alloc (.cells #[.int .i64 0] 28)).heap.size = w.heap.size + 4 := by simp
  obtain ⟨W0, hW0⟩ : ∃ W0, (((w.alloc (.cells #[.int .u64 l.base, .int .u64 l.term, ev] 25)).alloc (.cells #[.int .u64 i] 22)).alloc (.cells #[.slice none 0 0] 39)).alloc (.cells #[.int .i64 0] 28) = W0 := ⟨_, rfl⟩
  rw [hW0] at b0 b1 b2 b3 hB0 hs0 ⊢
  clear hW0
  have hl0 := hl.mono (le_of_below hB0)
  refine (callsIn_wide.2 (chk_in W0 hl0)).mono ?_
  rintro e w1 ⟨rfl, hB1, hK1⟩
  have hB01 : Below w.heap.size w w1 := hB0.trans (hB1.mono (by omega))
  replace b0 := blk_keep hB1 (by omega) b0
  replace b1 : Boxed w1 (w.heap.size + 1) 22 (.int .u64 i) := blk_keep hB1 (by omega) b1
  replace b2 : Boxed w1 (w.heap.size + 1 + 1) 39 (.slice none 0 0) := blk_keep hB1 (by omega) b2
  replace b3 : Boxed w1 (w.heap.size + 1 + 1 + 1) 28 (.int .i64 0) := blk_keep hB1 (by omega) b3
  have hs1 := hB1.size
  have x0 : w1.cell? ⟨w.heap.size, 2, none⟩ = some ev := by simp [World.cell?, b0]
  have x1 := b1.cell
  have x2 := b2.cell
  have x3 := b3.cell
  have f2 := b2.frozen
  have f3 := b3.frozen
  obtain ⟨ev', he', hev⟩ := hl.ex
  obtain rfl : ev = ev' := by cases he'; rfl
  obtain ⟨ad, cap, bb, off, f, rfl, hlen, had, hbb, hrow, hmem⟩ := rows_of hev
  gi_wp2
  · have hw : ¬logWhy l = 0 := by simpa using ‹(logWhy l != 0) = true›
    have c2 := ((b2.set (.slice none 0 0)).other (show w.heap.size + 1 + 1 ≠ w.heap.size + 1 + 1 + 1 by omega) (.int .i64 (logWhy l))).cell
    have c3 := ((b3.other (show w.heap.size + 1 + 1 + 1 ≠ w.heap.size + 1 + 1 by omega) (.slice none 0 0)).set (.int .i64 (logWhy l))).cell
    refine ⟨.tuple #[.slice none 0 0, .int .i64 (logWhy l)], by simp [results, Try.f27, go_sem, c2, c3], ?_⟩
    rw [memR_no hw (logNo_why hw).2]
    exact ⟨_, rfl, OwnIn.nil, (hB01.setCell (p := ⟨w.heap.size + 1 + 1, 0, none⟩) (by simp; omega) _).setCell (p := ⟨w.heap.size + 1 + 1 + 1, 0, none⟩) (by simp; omega) _⟩
  · have hw : logWhy l = 0 := by simpa using ‹(logWhy l != 0) = false›
    refine ⟨trivial, ?_⟩
    refine (back_in 8 _ _ _ _).mono ?_
    rintro e w2 ⟨rfl, rfl⟩
    gi_wp2
    have bx := Boxed.new w1 23 (.slice ad l.ents.length cap)
    have hB2 : Below w.heap.size w (w1.alloc (.cells #[.slice ad l.ents.length cap] 23)) := hB01.alloc (by omega) _
    replace b1 := b1.alloc (.cells #[.slice ad l.ents.length cap] 23)
    replace b2 := b2.alloc (.cells #[.slice ad l.ents.length cap] 23)
    replace b3 := b3.alloc (.cells #[.slice ad l.ents.length cap] 23)
    have hs2 : (w1.alloc (.cells #[.slice ad l.ents.length cap] 23)).heap.size = w1.heap.size + 1 := by simp
    obtain ⟨W2, hW2⟩ : ∃ W2, w1.alloc (.cells #[.slice ad l.ents.length cap] 23) = W2 := ⟨_, rfl⟩
    rw [hW2] at bx hB2 b1 b2 b3 hs2 ⊢
    clear hW2
    have hbb2 : bb < W2.heap.size := by have := hB01.size; omega
    obtain ⟨E, hE⟩ : ∃ E : Nat → Ent, (fun j => l.ents.getD j ent0) = E := ⟨_, rfl⟩
    have hEj : ∀ j, l.ents.getD j ent0 = E j := fun j => congrFun hE j
    simp only [hEj] at hrow hmem
    have hrow2 : ∀ j, j < l.ents.length → W2.cell? ⟨bb, off + j * 5, none⟩ = some (.int .u64 (E j).index) ∧ W2.cell? ⟨bb, off + j * 5 + 1, none⟩ = some (.int .u64 (E j).term) ∧ W2.cell? ⟨bb, off + j * 5 + 2, none⟩ = some (.int .u8 (E j).kind) ∧ W2.cell? ⟨bb, off + j * 5 + 3, none⟩ = some (.string (E j).data) ∧ W2.cell? ⟨bb, off + j * 5 + 4, none⟩ = some (slF f j) := fun j hj => by
      obtain ⟨c0, c1, c2, c3, c4⟩ := hrow j hj
      have hbw : bb < w.heap.size := by
        rcases Nat.lt_or_ge bb w.heap.size with h | h
        · exact h
        · have hn : w.heap[bb]? = none := Array.getElem?_eq_none_iff.2 h
          simp [World.cell?, hn] at c0
      exact ⟨(hB2.cell (p := ⟨bb, off + j * 5, none⟩) hbw).trans c0, (hB2.cell (p := ⟨bb, off + j * 5 + 1, none⟩) hbw).trans c1, (hB2.cell (p := ⟨bb, off + j * 5 + 2, none⟩) hbw).trans c2, (hB2.cell (p := ⟨bb, off + j * 5 + 3, none⟩) hbw).trans c3, (hB2.cell (p := ⟨bb, off + j * 5 + 4, none⟩) hbw).trans c4⟩
    refine wpIn_rangeFunc_ownH rfl (by omega) (gf := 47) (lb := #[.pointer (some ⟨w1.heap.size, 0, none⟩)]) rfl trivial (enters_of Try.func47 (by kernel_rfl) rfl)
      (back_stops 8 (by omega) w1.heap.size W2.heap.size bb off l.ents.length cap E (slF f) ad had hlen hbb2 (by omega) W2 (Nat.le_refl _) bx.cell hrow2) belowK_t (belowK_b (Nat.le_refl _)) (Below.refl _ _) (fun _ => rfl)
      (fun pre W => (∀ j ∈ pre, isM i (E j) = false) ∧ Below W2.heap.size W2 W)
      (fun c pre W => (c = .ret ∧ ∃ ini last, pre = ini ++ [last] ∧ (∀ j ∈ ini, isM i (E j) = false) ∧ isM i (E last) = true ∧ ∃ u, Boxed W (w.heap.size + 1 + 1) 39 u ∧ Boxed W (w.heap.size + 1 + 1 + 1) 28 (.int .i64 0) ∧ OwnIn W2.heap.size W u (E last).members) ∧ Below w.heap.size w W)
      (OwnFrom.and (ownFrom_pure _ (fun pre => ∀ j ∈ pre, isM i (E j) = false)) (ownFrom_below (Nat.le_refl _) (Nat.le_refl _)))
      (fun c => OwnFrom.and (fun s A B row hs hg hr => by
        obtain ⟨hc, ini, last, e1, e2, e3, u, u1, u2, u3⟩ := hs
        refine ⟨hc, ini, last, e1, e2, e3, u, u1.kept hg (fun e => ?_), u2.kept hg (fun e => ?_), u3.kept hg (fun r e => (hr r e).2)⟩
        · have := (hr _ e.symm).1; omega
        · have := (hr _ e.symm).1; omega) (ownFrom_below (Nat.le_refl _) (by omega)))
      ⟨(fun j hj => by cases hj), Below.refl _ _⟩
      (fun x a' W => ∃ Bx, W2.heap.size ≤ Bx ∧ W.heap[Bx]? = some (.cells #[.int .u64 (E x).index, .int .u64 (E x).term, .int .u8 (E x).kind, .string (E x).data, .slice (f x).1 (f x).2.1 (f x).2.2] 41 (0, 0)) ∧ a' = { tmps := #[.agg #[.int .u64 l.base, .int .u64 l.term, .slice ad l.ents.length cap], .int .u64 i, v, .pointer (some ⟨w.heap.size, 0, none⟩), .pointer (some ⟨w.heap.size + 1, 0, none⟩), undef, .pointer (some ⟨w.heap.size + 1 + 1, 0, none⟩), .pointer (some ⟨w.heap.size + 1 + 1 + 1, 0, none⟩), .int .i64 0, undef, .pointer (some ⟨Bx, 0, none⟩), .agg #[.int .u64 l.base, .int .u64 l.term, .slice ad l.ents.length cap], .int .i64 0, .int .i64 0, .bool false, undef, .pointer (some ⟨w.heap.size, 2, none⟩), .slice ad l.ents.length cap, .func (.func 47) #[] #[.pointer (some ⟨w1.heap.size, 0, none⟩)], .int .i64 (x : Int), .agg #[.int .u64 (E x).index, .int .u64 (E x).term, .int .u8 (E x).kind, .string (E x).data, .slice (f x).1 (f x).2.1 (f x).2.2], undef, undef, undef, undef, undef, undef, undef, undef, undef, undef, undef, undef, undef, undef], defers := [] })
      (fun x a' _ X Y row hs hg hr => by
        obtain ⟨Bx, h1, h2, h3⟩ := hs
        exact ⟨Bx, h1, (grownBy_keeps_cells hg (fun r e => (hr r e).2) h2 rfl).trans h2, h3⟩)
      ?assign ?body ?done ?stop
    case assign =>
      rintro l1 pre x W K ⟨hp, hBW⟩ hK
      simp only [encE, Ent.cells, slF]
      gi_wp2
      exact hK _ _ ((KeepsOthers.alloc _ _).from _) ((Below.refl _ W).alloc hBW.size _) ⟨hp, hBW.alloc hBW.size _⟩ ⟨W.heap.size, hBW.size, World.alloc_heap_new W _, rfl⟩
    case body =>
      rintro l1 pre x a' W hll ⟨r, hr⟩ ⟨hp, hBW⟩ ⟨Bx, hBx, hbx, rfl⟩ hlt
      have y0 : W.cell? ⟨Bx, 0, none⟩ = some (.int .u64 (E x).index) := by simp [World.cell?, hbx]
      have y2 : W.cell? ⟨Bx, 2, none⟩ = some (.int .u8 (E x).kind) := by simp [World.cell?, hbx]
      have y4 : W.cell? ⟨Bx, 4, none⟩ = some (.slice (f x).1 (f x).2.1 (f x).2.2) := by simp [World.cell?, hbx]
      have d1 : Boxed W (w.heap.size + 1) 22 (.int .u64 i) := blk_keep hBW (by omega) b1
      have d2 : Boxed W (w.heap.size + 1 + 1) 39 (.slice none 0 0) := blk_keep hBW (by omega) b2
      have d3 : Boxed W (w.heap.size + 1 + 1 + 1) 28 (.int .i64 0) := blk_keep hBW (by omega) b3
      have x1' := d1.cell
      have hBw : Below w.heap.size w W := hB2.trans (hBW.mono (by omega))
      have hmx := (hmem x).mono (le_of_below hBw)
      have hmM : (E x).members.length * 8 ≤ 140737488351232 := by
        rw [← hEj x]
        by_cases hx : x < l.ents.length
        · rw [entD hx]; exact hM _ (List.getElem_mem hx)
        · rw [List.getD_eq_getElem?_getD, List.getElem?_eq_none (by omega)]; exact Nat.zero_le _
      gi_wp2
      · refine ⟨trivial, ?_⟩
        refine (CallsIn.inRound l1 (callsIn_wide.2 (clone_in W hmx hmM))).mono ?_
        rintro e w3 ⟨u, rfl, hu, hB3, hK3⟩
        obtain ⟨ua, um, uc, rfl⟩ : ∃ a m c, u = .slice a m c := by
          obtain ⟨ws, ob, ho, _⟩ := hu
          obtain ⟨a, c, e⟩ := ho.form
          exact ⟨a, _, c, e⟩
        have hsW := hBW.size
        replace d2 : Boxed w3 (w.heap.size + 1 + 1) 39 (.slice none 0 0) := blk_keep hB3 (by omega) d2
        replace d3 : Boxed w3 (w.heap.size + 1 + 1 + 1) 28 (.int .i64 0) := blk_keep hB3 (by omega) d3
        have e2 := d2.cell
        have e3 := d3.cell
        have g2 := d2.frozen
        have g3 := d3.frozen
        have hk3 : (E x).kind = 3 := by assumption
        have hix : (E x).index ≤ i := by first | assumption | omega
        gi_wp2
        exact ⟨(hK3.trans ((KeepsOthers.setCell _ _ _).trans (KeepsOthers.setCell _ _ _))).from _, ⟨rfl, pre, x, rfl, hp, by unfold isM; rw [decide_eq_true hk3, decide_eq_true hix]; rfl, _, (d2.set (.slice ua um uc)).other (by omega) _, (d3.other (by omega) (.slice ua um uc)).set _, ((hu.mono hsW).setCell (by omega)).setCell (by omega)⟩,
          ((hBw.trans (hB3.mono (by omega))).setCell (p := ⟨w.heap.size + 1 + 1, 0, none⟩) (by simp; omega) _).setCell (p := ⟨w.heap.size + 1 + 1 + 1, 0, none⟩) (by simp; omega) _⟩
      · have hix : ¬(E x).index ≤ i := by omega
        exact ⟨KeepsFrom.refl _ _, Below.refl _ _, (fun j hj => (List.mem_append.1 hj).elim (hp j) (fun e => by rw [List.mem_singleton] at e; subst e; unfold isM; rw [decide_eq_false hix]; simp)), hBW⟩
      · have hk3 : ¬(E x).kind = 3 := by assumption
        exact ⟨KeepsFrom.refl _ _, Below.refl _ _, (fun j hj => (List.mem_append.1 hj).elim (hp j) (fun e => by rw [List.mem_singleton] at e; subst e; unfold isM; rw [decide_eq_false hk3]; simp)), hBW⟩
    case done =>
      rintro D ys W hD rfl ⟨hp, hBW⟩ hK
      have d2 : Boxed W (w.heap.size + 1 + 1) 39 (.slice none 0 0) := blk_keep hBW (by omega) b2
      have d3 : Boxed W (w.heap.size + 1 + 1 + 1) 28 (.int .i64 0) := blk_keep hBW (by omega) b3
      have hBw : Below w.heap.size w W := hB2.trans (hBW.mono (by omega))
      have hsW := hBW.size
      dsimp only
      gi_wp2
      refine ⟨trivial, ?_⟩
      refine (callsIn_wide.2 (clone_in W (hb.mono (le_of_below hBw)) hB)).mono ?_
      rintro e w3 ⟨u, rfl, hu, hB3, hK3⟩
      obtain ⟨ua, um, uc, rfl⟩ : ∃ a m c, u = .slice a m c := by
        obtain ⟨ws, ob, ho, _⟩ := hu
        obtain ⟨a, c, e⟩ := ho.form
        exact ⟨a, _, c, e⟩
      replace d2 : Boxed w3 (w.heap.size + 1 + 1) 39 (.slice none 0 0) := blk_keep hB3 (by omega) d2
      replace d3 : Boxed w3 (w.heap.size + 1 + 1 + 1) 28 (.int .i64 0) := blk_keep hB3 (by omega) d3
      have e2 := d2.cell
      have e3 := d3.cell
      have g2 := d2.frozen
      have g3 := d3.frozen
      have hmt : memTo l.ents i b l.ents.length = b := (memTo_skip (k := 0) (Nat.zero_le _) fun j hj _ => by
        have := hp j (by simp only [bTo', List.mem_map, List.mem_range]; exact ⟨l.ents.length - 1 - j, by omega, by omega⟩)
        rw [← hEj j, entD hj] at this; exact this)
      gi_wp2
      have hK' := (hK3.trans ((KeepsOthers.setCell _ ⟨w.heap.size + 1 + 1, 0, none⟩ (.slice ua um uc)).trans (KeepsOthers.setCell _ ⟨w.heap.size + 1 + 1 + 1, 0, none⟩ (.int .i64 0)))).same D _ hK rfl
      have c2 := cell_kept ((d2.set (.slice ua um uc)).other (show w.heap.size + 1 + 1 ≠ w.heap.size + 1 + 1 + 1 by omega) (.int .i64 0)).cell (grownBy_putObj' _ D (.deferred none)) (fun r e => by cases e; exact ⟨_, hK', rfl⟩)
      have c3 := cell_kept ((d3.other (show w.heap.size + 1 + 1 + 1 ≠ w.heap.size + 1 + 1 by omega) (.slice ua um uc)).set (.int .i64 0)).cell (grownBy_putObj' _ D (.deferred none)) (fun r e => by cases e; exact ⟨_, hK', rfl⟩)
      refine ⟨by simp, .inl ⟨_, _, rfl, run_takeDeferred hK', ?_⟩⟩
      refine ⟨.tuple #[.slice ua um uc, .int .i64 0], by simp [results, Try.f27, go_sem, c2, c3], .slice ua um uc, ?_, ?_, ?_⟩
      · rw [memR_yes hw]
      · rw [memR_yes hw, hmt]
        exact (((hu.mono (by omega)).setCell (by omega)).setCell (by omega)).kept (grownBy_putObj' _ D (.deferred none)) (fun r e => by cases e; exact ⟨_, hK', rfl⟩) |>.mono (by omega)
      · exact (((hBw.trans (hB3.mono (by omega))).setCell (p := ⟨w.heap.size + 1 + 1, 0, none⟩) (by simp; omega) _).setCell (p := ⟨w.heap.size + 1 + 1 + 1, 0, none⟩) (by simp; omega) _).trans (belowK_b (w := w) (Nat.le_refl _) _ D _ _ (by omega) hK' rfl rfl)
    case stop =>
      rintro D c pre W hD ⟨k, hk, rfl⟩ ⟨⟨rfl, ini, last, e1, e2, e3, u, u1, u2, u3⟩, hB⟩ hK
      have c2 := cell_kept u1.cell (grownBy_putObj' _ D (.deferred none)) (fun r e => by cases e; exact ⟨_, hK, rfl⟩)
      have c3 := cell_kept u2.cell (grownBy_putObj' _ D (.deferred none)) (fun r e => by cases e; exact ⟨_, hK, rfl⟩)
      have hmt : memTo l.ents i b l.ents.length = (E last).members := by
        obtain ⟨k', rfl⟩ : ∃ k', k = k' + 1 := by
          cases k with
          | zero => simp [bTo'] at e1
          | succ k' => exact ⟨k', rfl⟩
        rw [bTo'_succ] at e1
        obtain ⟨rfl, e5⟩ := List.append_inj' e1 rfl
        obtain rfl : l.ents.length - 1 - k' = last := by simpa using e5
        rw [memTo_skip (k := l.ents.length - 1 - k' + 1) (by omega) fun j hj hlt => ?_, memTo_succ (by omega), ← entD (show l.ents.length - 1 - k' < l.ents.length by omega), hEj, if_pos e3]
        have := e2 j (by simp only [bTo', List.mem_map, List.mem_range]; exact ⟨l.ents.length - 1 - j, by omega, by omega⟩)
        rw [← hEj j, entD hj] at this; exact this
      dsimp only
      gi_wp2
      refine ⟨by simp, .inl ⟨_, _, rfl, run_takeDeferred hK, ?_⟩⟩
      refine ⟨.tuple #[u, .int .i64 0], by simp [results, Try.f27, go_sem, c2, c3], u, ?_, ?_, ?_⟩
      · rw [memR_yes hw]
      · rw [memR_yes hw, hmt]
        exact (u3.kept (grownBy_putObj' _ D (.deferred none)) (fun r e => by cases e; exact ⟨_, hK, rfl⟩)).mono (by omega)
      · exact hB.trans (belowK_b (w := w) (Nat.le_refl _) _ D _ _ (by omega) hK rfl rfl)
theorem lMem_ok {I : Imm} {O : Go.Sy.Own} {lc : List Value} {l : Lg} (hl : LgR I lc l) {i : Int} {v : Value} {b : List Int} (hb : IntsR I v b) (hB : b.length * 8 ≤ 140737488351232) (hM : ∀ e ∈ l.ents, e.members.length * 8 ≤ 140737488351232) :
    Go.Sy.Does Try.prog 27 [.agg ⟨lc⟩, .int .u64 i, v] I O (fun u I' O' => ∃ v ws ob, u = .tuple ⟨[v, .int .i64 (memR l i b).2]⟩ ∧ OwnS 1 v (memR l i b).1.length ws ob ∧ DR I64R 1 I' ws (memR l i b).1 ∧ O' = ob ++ O) := fun w hw => by
  obtain ⟨ev, rfl, _⟩ := hl.ex
  have hle : I.le (snap w) := ⟨fun b o e => hw.imm b o e, hw.env⟩
  refine (mem_in w (hl.mono hle) (hb.mono hle) hB hM).mono ?_
  rintro e w' ⟨u, rfl, ⟨ws, ob, ho, hd, hx⟩, hB'⟩
  have hlt : ∀ b o, I b = some o → b < w.heap.size := fun b o e => (Array.getElem?_eq_some_iff.1 (hw.imm b o e)).1
  refine ⟨_, I, ob ++ O, rfl, Imm.le_refl _, ⟨fun b o e => blk_keep hB' (hlt b o e) (hw.imm b o e), fun b o hm => ?_, ?_, fun b o hm => ?_, ?_⟩, u, ws, ob, rfl, ho, hd.mono fun _ _ h => h, rfl⟩
  · rcases List.mem_append.1 hm with hm | hm
    · exact (hx _ hm).2.1
    · exact blk_keep hB' (hw.lt hm) (hw.own b o hm)
  · rw [List.map_append, List.nodup_append]
    refine ⟨?_, hw.nodup, fun a ha c hc e => ?_⟩
    · rcases ho with ⟨_, _, _, rfl⟩ | ⟨_, _, _, _, _, rfl, _⟩
      · exact List.nodup_nil
      · simp
    · subst e
      obtain ⟨x, hx1, rfl⟩ := List.mem_map.1 ha
      obtain ⟨y, hy1, e⟩ := List.mem_map.1 hc
      have h1 := (hx x hx1).1
      have h2 := hw.lt (b := y.1) (o := y.2) hy1
      omega
  · rcases List.mem_append.1 hm with hm | hm
    · cases e : I b with
      | none => rfl
      | some q => have := hlt b q e; have := (hx _ hm).1; simp at this; omega
    · exact hw.apart b o hm
  · rw [← hw.env]
    unfold World.env
    rw [hB'.os, hB'.tape, hB'.output]
end Go.Proofs.Yteajcmnbjpbnpaa
