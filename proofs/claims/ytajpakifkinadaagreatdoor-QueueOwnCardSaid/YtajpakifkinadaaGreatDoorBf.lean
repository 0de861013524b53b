/- Walks of functions over a symbolic memory, printed by a program of the session. -/
import Derived.Test.YtajpakifkinadaaGreatDoorBe
namespace Go.Proofs.YtajpakifkinadaaGreatDoor
open Go.Sy
set_option linter.unusedSimpArgs false
set_option linter.unusedVariables false

section
variable {α : Type} {nm : α → ByteArray}
theorem has_get {l : List α} {s : ByteArray} (hr : Rising nm l) (h : hasBy nm l s = true) : ∃ hk : posBy nm l s < l.length, nm l[posBy nm l s] = s := by
  unfold hasBy at h
  obtain ⟨x, hx, hs⟩ := List.any_eq_true.1 h
  rw [decide_eq_true_eq] at hs
  obtain ⟨j, hj, rfl⟩ := List.mem_iff_getElem.1 hx
  have e : posBy nm l s = j := pos_of (Nat.le_of_lt hj) (fun i hi hij => by rw [← hs]; exact hr i j hi hj hij) (fun _ => by rw [hs]; exact lt_irr s)
  exact ⟨by rw [e]; exact hj, by simp only [e]; exact hs⟩
theorem find_get {l : List α} {s : ByteArray} (hr : Rising nm l) (h : hasBy nm l s = true) : l.find? (fun x => decide (nm x = s)) = some (l[posBy nm l s]'(has_get hr h).1) := by
  obtain ⟨hk, hs⟩ := has_get hr h
  cases e : l.find? (fun x => decide (nm x = s)) with
  | none =>
    have := List.find?_eq_none.1 e l[posBy nm l s] (List.getElem_mem hk)
    simp [hs] at this
  | some y =>
    have hy := List.mem_of_find?_eq_some e
    have hn := List.find?_some e
    rw [decide_eq_true_eq] at hn
    obtain ⟨j, hj, rfl⟩ := List.mem_iff_getElem.1 hy
    have e2 : posBy nm l s = j := pos_of (Nat.le_of_lt hj) (fun i hi hij => by rw [← hn]; exact hr i j hi hj hij) (fun _ => by rw [hn]; exact lt_irr s)
    simp only [e2]
theorem find_no {l : List α} {s : ByteArray} (h : hasBy nm l s = false) : l.find? (fun x => decide (nm x = s)) = none := by
  rw [List.find?_eq_none]
  intro x hx hs
  have : hasBy nm l s = true := List.any_eq_true.2 ⟨x, hx, hs⟩
  rw [h] at this; cases this
end
theorem len_le_of_mem {α : Type} [DecidableEq α] : ∀ (A B : List α), A.Nodup → (∀ x ∈ A, x ∈ B) → A.length ≤ B.length
  | [], B, _, _ => Nat.zero_le _
  | a :: A, B, hn, h => by
    rw [List.nodup_cons] at hn
    have ha := h a List.mem_cons_self
    have := len_le_of_mem A (B.erase a) hn.2 fun x hx => (List.mem_erase_of_ne (fun e => hn.1 (by rw [← e]; exact hx))).2 (h x (List.mem_cons_of_mem _ hx))
    rw [List.length_erase_of_mem ha] at this
    have hp := List.length_pos_of_mem ha
    rw [List.length_cons]
    omega
theorem nodup_of {α : Type} {nm : α → ByteArray} {l : List α} (hr : Rising nm l) : (l.map nm).Nodup := by
  rw [List.nodup_iff_pairwise_ne, List.pairwise_map, List.pairwise_iff_getElem]
  intro i j hi hj hij e
  have := hr i j hi hj hij
  rw [e, lt_irr] at this; cases this
def hasT (b : Bk) (s : ByteArray) : Bool := hasBy (fun x : Tsk => x.name) b.tasks s
def hasN (b : Bk) (s : ByteArray) : Bool := hasBy (fun x : Nod => x.name) b.nodes s
def hasB (b : Bk) (s : ByteArray) : Bool := hasBy (fun x : Bnd => x.task) b.binds s
def thereF (b : Bk) (s : ByteArray) (x : Bnd) : Option Tsk := if x.node = s then b.tasks.find? (fun t => decide (t.name = x.task)) else none
def thereTo (b : Bk) (s : ByteArray) (k : Nat) : List Tsk := (b.binds.take k).filterMap (thereF b s)
def thereR (b : Bk) (s : ByteArray) : List Tsk := b.binds.filterMap (thereF b s)
theorem there_end {b : Bk} {s : ByteArray} {k : Nat} (h : b.binds.length ≤ k) : thereTo b s k = thereR b s := by unfold thereTo thereR; rw [List.take_of_length_le h]
theorem there_yes {b : Bk} {s : ByteArray} {k : Nat} (hk : k < b.binds.length) (hr : Rising (fun x : Tsk => x.name) b.tasks) (h : hasBy (fun x : Tsk => x.name) b.tasks b.binds[k].task = true) (h2 : b.binds[k].node = s) : thereTo b s (k + 1) = thereTo b s k ++ [b.tasks[posBy (fun x : Tsk => x.name) b.tasks b.binds[k].task]'(has_get hr h).1] := by
  unfold thereTo
  rw [List.take_succ_eq_append_getElem hk, List.filterMap_append]
  congr 1
  have e : thereF b s b.binds[k] = some (b.tasks[posBy (fun x : Tsk => x.name) b.tasks b.binds[k].task]'(has_get hr h).1) := by
    unfold thereF
    rw [if_pos h2]
    exact find_get hr h
  simp [e]
theorem there_no {b : Bk} {s : ByteArray} {k : Nat} (hk : k < b.binds.length) (h : hasBy (fun x : Tsk => x.name) b.tasks b.binds[k].task = false ∨ ¬b.binds[k].node = s) : thereTo b s (k + 1) = thereTo b s k := by
  unfold thereTo
  rw [List.take_succ_eq_append_getElem hk, List.filterMap_append]
  have e : thereF b s b.binds[k] = none := by
    unfold thereF
    rcases h with h | h
    · split
      · exact find_no h
      · rfl
    · rw [if_neg h]
  simp [e]
theorem there_len {b : Bk} {s : ByteArray} {k : Nat} : (thereTo b s k).length ≤ k := by
  unfold thereTo
  have := List.length_filterMap_le (thereF b s) (b.binds.take k)
  rw [List.length_take] at this
  omega
def task0' : Tsk := ⟨⟨#[]⟩, ⟨0, 0, 0⟩, [], [], ⟨#[]⟩, ⟨#[]⟩, 0⟩
def fitAt (n : Nod) (l : List Tsk) (i : Nat) : Bool := suits (l.getD i task0') n && !(l.take i).any fun u => !bear (l.getD i task0') u
def fitTo (n : Nod) (l : List Tsk) (k : Nat) : Bool := (List.range k).all (fitAt n l)
def wellR (b : Bk) (n : Nod) : Bool := (decide ((sumR (thereR b n.name)).2 = 0) && room n (sumR (thereR b n.name)).1 ⟨0, 0, 0⟩) && fitTo n (thereR b n.name) (thereR b n.name).length
theorem fit_step {n : Nod} {l : List Tsk} {k : Nat} (h : fitTo n l k = true) (h2 : fitAt n l k = true) : fitTo n l (k + 1) = true := by unfold fitTo at *; rw [List.range_succ, List.all_append, h]; simp [h2]
theorem fit_bad {n : Nod} {l : List Tsk} {k : Nat} (hk : k < l.length) (h : fitAt n l k = false) : fitTo n l l.length = false := by
  rw [Bool.eq_false_iff]; intro h2
  have := List.all_eq_true.1 h2 k (List.mem_range.2 hk)
  rw [h] at this; cases this
theorem tskD {l : List Tsk} {k : Nat} (hk : k < l.length) : l.getD k task0' = l[k] := by simp [hk]
def canT (b : Bk) (t : Tsk) (n : Nod) (node : ByteArray) : Bool := suits t n && room n (sumR (thereR b node)).1 t.needs
def canR (b : Bk) (task node : ByteArray) : Int :=
  match b.tasks.find? (fun t => decide (t.name = task)), b.nodes.find? (fun n => decide (n.name = node)) with
  | some t, some n => if hasB b task = true then 7 else if (canT b t n node && (thereR b node).all (bear t)) = true then 0 else 13
  | _, _ => 6
theorem canR_none {b : Bk} {task node : ByteArray} (h : hasT b task = false ∨ hasN b node = false) : canR b task node = 6 := by
  unfold canR
  rcases h with h | h
  · rw [show b.tasks.find? (fun t => decide (t.name = task)) = none from find_no h]
  · rw [show b.nodes.find? (fun n => decide (n.name = node)) = none from find_no h]
    cases b.tasks.find? (fun t => decide (t.name = task)) <;> rfl
theorem canR_some {b : Bk} {task node : ByteArray} (hrt : Rising (fun x : Tsk => x.name) b.tasks) (hrn : Rising (fun x : Nod => x.name) b.nodes) (h : hasBy (fun x : Tsk => x.name) b.tasks task = true) (h2 : hasBy (fun x : Nod => x.name) b.nodes node = true) : canR b task node = if hasB b task = true then 7 else
    if (canT b (b.tasks[posBy (fun x : Tsk => x.name) b.tasks task]'(has_get hrt h).1) (b.nodes[posBy (fun x : Nod => x.name) b.nodes node]'(has_get hrn h2).1) node && (thereR b node).all (bear (b.tasks[posBy (fun x : Tsk => x.name) b.tasks task]'(has_get hrt h).1))) = true then 0 else 13 := by
  unfold canR
  rw [find_get hrt h, find_get hrn h2]

set_option maxHeartbeats 1000000 in
set_option maxRecDepth 20000 in
theorem knode_ok {I : Imm} {O : Own} {kc : List Value} {b : Bk} {kb : Nat} (hb : Has O kb (.cells ⟨kc⟩ 66 (0, 0))) (hk : BkR I kc b) {s : ByteArray} (hr : Rising (fun x : Nod => x.name) b.nodes) (hsm : b.nodes.length ≤ 4611686018427387903) :
    Pure Tryz.prog 44 [.pointer (some ⟨kb, 0, none⟩), .string s] I O (.tuple ⟨[.int .i64 (posBy (fun x : Nod => x.name) b.nodes s : Nat), .bool (hasBy (fun x : Nod => x.name) b.nodes s)]⟩) := by
  have hk0 := hk
  obtain ⟨nv, tv, bv, rfl, hnv, htv, hbv⟩ := hk.ex
  have hnv0 := hnv
  have htv0 := htv
  have hbv0 := hbv
  obtain ⟨na, ncap, rfl, hn1, hn2, -⟩ := hnv
  obtain ⟨ta, tcap, rfl, ht1, ht2, -⟩ := htv
  obtain ⟨ba, bcap, rfl, hb1, hb2, -⟩ := hbv
  refine Go.Sy.Does.enter Tryz.func44 rfl Tryz.ntmps44 rfl ?_
  refine .seq <| .region <| .e (.assign rfl) rfl rfl <| .e (.assign rfl) rfl rfl <| .nil <| .go ?_
  refine .seq <| .region <| .e (.move rfl) rfl rfl <| .e (.nilCheck rfl) rfl rfl <| .e (.fieldAddr fo66_0 rfl) rfl rfl <| .e (.fieldAddr fo27_0 rfl) rfl rfl ?_
  refine .e (.load ag22 rfl (hb) rfl) rfl rfl <| .e (.move rfl) rfl rfl <| .on rfl <| .callP cal81 rfl rfl rfl (findNod_ok hnv0 hr hsm) <| .e (.extract rfl rfl) rfl rfl <| .e (.extract rfl rfl) rfl rfl <| .e (.assign rfl) rfl rfl ?_
  refine .e (.assign rfl) rfl rfl <| .nil <| .go <| .ret ?_
  refine Post.retsE rfl (.tmp rfl (.tmp rfl .nil)) rfl (fun w h => h) ?_
  rfl

set_option maxHeartbeats 1000000 in
set_option maxRecDepth 20000 in
theorem ktask_ok {I : Imm} {O : Own} {kc : List Value} {b : Bk} {kb : Nat} (hb : Has O kb (.cells ⟨kc⟩ 66 (0, 0))) (hk : BkR I kc b) {s : ByteArray} (hr : Rising (fun x : Tsk => x.name) b.tasks) (hsm : b.tasks.length ≤ 4611686018427387903) :
    Pure Tryz.prog 45 [.pointer (some ⟨kb, 0, none⟩), .string s] I O (.tuple ⟨[.int .i64 (posBy (fun x : Tsk => x.name) b.tasks s : Nat), .bool (hasBy (fun x : Tsk => x.name) b.tasks s)]⟩) := by
  have hk0 := hk
  obtain ⟨nv, tv, bv, rfl, hnv, htv, hbv⟩ := hk.ex
  have hnv0 := hnv
  have htv0 := htv
  have hbv0 := hbv
  obtain ⟨na, ncap, rfl, hn1, hn2, -⟩ := hnv
  obtain ⟨ta, tcap, rfl, ht1, ht2, -⟩ := htv
  obtain ⟨ba, bcap, rfl, hb1, hb2, -⟩ := hbv
  refine Go.Sy.Does.enter Tryz.func45 rfl Tryz.ntmps45 rfl ?_
  refine .seq <| .region <| .e (.assign rfl) rfl rfl <| .e (.assign rfl) rfl rfl <| .nil <| .go ?_
  refine .seq <| .region <| .e (.move rfl) rfl rfl <| .e (.nilCheck rfl) rfl rfl <| .e (.fieldAddr fo66_0 rfl) rfl rfl <| .e (.fieldAddr fo27_1 rfl) rfl rfl ?_
  refine .e (.load ag23 rfl (hb) rfl) rfl rfl <| .e (.move rfl) rfl rfl <| .on rfl <| .callP cal83 rfl rfl rfl (findTsk_ok htv0 hr hsm) <| .e (.extract rfl rfl) rfl rfl <| .e (.extract rfl rfl) rfl rfl <| .e (.assign rfl) rfl rfl ?_
  refine .e (.assign rfl) rfl rfl <| .nil <| .go <| .ret ?_
  refine Post.retsE rfl (.tmp rfl (.tmp rfl .nil)) rfl (fun w h => h) ?_
  rfl

set_option maxHeartbeats 1000000 in
set_option maxRecDepth 20000 in
theorem kbind_ok {I : Imm} {O : Own} {kc : List Value} {b : Bk} {kb : Nat} (hb : Has O kb (.cells ⟨kc⟩ 66 (0, 0))) (hk : BkR I kc b) {s : ByteArray} (hr : Rising (fun x : Bnd => x.task) b.binds) (hsm : b.binds.length ≤ 4611686018427387903) :
    Pure Tryz.prog 60 [.pointer (some ⟨kb, 0, none⟩), .string s] I O (.tuple ⟨[.int .i64 (posBy (fun x : Bnd => x.task) b.binds s : Nat), .bool (hasBy (fun x : Bnd => x.task) b.binds s)]⟩) := by
  have hk0 := hk
  obtain ⟨nv, tv, bv, rfl, hnv, htv, hbv⟩ := hk.ex
  have hnv0 := hnv
  have htv0 := htv
  have hbv0 := hbv
  obtain ⟨na, ncap, rfl, hn1, hn2, -⟩ := hnv
  obtain ⟨ta, tcap, rfl, ht1, ht2, -⟩ := htv
  obtain ⟨ba, bcap, rfl, hb1, hb2, -⟩ := hbv
  refine Go.Sy.Does.enter Tryz.func60 rfl Tryz.ntmps60 rfl ?_
  refine .seq <| .region <| .e (.assign rfl) rfl rfl <| .e (.assign rfl) rfl rfl <| .nil <| .go ?_
  refine .seq <| .region <| .e (.move rfl) rfl rfl <| .e (.nilCheck rfl) rfl rfl <| .e (.fieldAddr fo66_0 rfl) rfl rfl <| .e (.fieldAddr fo27_2 rfl) rfl rfl ?_
  refine .e (.load ag24 rfl (hb) rfl) rfl rfl <| .e (.move rfl) rfl rfl <| .on rfl <| .callP cal94 rfl rfl rfl (findBnd_ok hbv0 hr hsm) <| .e (.extract rfl rfl) rfl rfl <| .e (.extract rfl rfl) rfl rfl <| .e (.assign rfl) rfl rfl ?_
  refine .e (.assign rfl) rfl rfl <| .nil <| .go <| .ret ?_
  refine Post.retsE rfl (.tmp rfl (.tmp rfl .nil)) rfl (fun w h => h) ?_
  rfl

set_option maxHeartbeats 1000000 in
set_option maxRecDepth 20000 in
theorem there_ok {I : Imm} {O : Own} {kc : List Value} {b : Bk} {kb : Nat} (hb : Has O kb (.cells ⟨kc⟩ 66 (0, 0))) (hk : BkR I kc b) {s : ByteArray} (hr : Rising (fun x : Tsk => x.name) b.tasks) (hsm : b.tasks.length ≤ 4611686018427387903) (hbl : b.binds.length ≤ 32) :
    Go.Sy.Does Tryz.prog 57 [.pointer (some ⟨kb, 0, none⟩), .string s] I O (fun u I' O' => O' = O ∧ TsksR I' u (thereR b s)) := by
  have hk0 := hk
  obtain ⟨nv, tv, bv, rfl, hnv, htv, hbv⟩ := hk.ex
  have hnv0 := hnv
  have htv0 := htv
  have hbv0 := hbv
  obtain ⟨na, ncap, rfl, hn1, hn2, -⟩ := hnv
  obtain ⟨ta, tcap, rfl, ht1, ht2, -⟩ := htv
  obtain ⟨ba, bcap, rfl, hb1, hb2, -⟩ := hbv
  refine Go.Sy.Does.enter Tryz.func57 rfl Tryz.ntmps57 rfl ?_
  refine .seq <| .region <| .e (.assign rfl) rfl rfl <| .nil <| .go <| .seq ?_
  refine .region <| .e (.assign rfl) rfl rfl <| .nil <| .go <| .seq <| .seq ?_
  refine .region <| .e (.move rfl) rfl rfl <| .e (.nilCheck rfl) rfl rfl <| .e (.fieldAddr fo66_0 rfl) rfl rfl <| .e (.fieldAddr fo27_2 rfl) rfl rfl <| .e (.load ag24 rfl (hb) rfl) rfl rfl ?_
  refine .e (.len sl24 rfl rfl) rfl rfl <| .e (.move rfl) rfl rfl <| .nil <| .go <| .block ?_
  refine .loopM [5, 7, 8, 9, 16, 17, 18, 19, 20, 21, 22, 23, 24, 25, 26, 27, 28, 29, 30, 31, 32, 33, 34, 35, 36, 37, 38, 39, 40, 41, 42, 43, 44, 45] (fun s' => b.binds.length - s'.1) (fun s' => s'.1 ≤ b.binds.length ∧ OwnS 9 s'.2.1 (thereTo b s s'.1).length s'.2.2.1 s'.2.2.2 ∧ DR TskR 9 I s'.2.2.1 (thereTo b s s'.1)) (fun s' => [(16, .int .i64 s'.1), (5, s'.2.1)]) (fun _ => _) (fun s' => s'.2.2.2 ++ _) (((0, .slice none 0 0, [], []) : Nat × Value × List Value × Own)) ⟨Nat.zero_le _, OwnS.nil, DR.nil⟩ ⟨rfl, rfl, trivial⟩ rfl rfl ?_
  intro ⟨k, vL, wsL, obL⟩ hk
  dsimp only at hk ⊢
  obtain ⟨hkk, hoL, hdL⟩ := hk
  obtain ⟨adL, capL, rfl⟩ := hoL.form
  have hlen := there_len (b := b) (s := s) (k := k)
  refine .seq <| .region <| .e (.lss rfl rfl) rfl rfl <| .nil <| .go <| .seq ?_
  refine .split 17 rfl (fun h17 => ?_) (fun h17 => ?_)
  · skip
    replace h17 := of_decide_eq_true h17
    refine .cond_true rfl <| .skip <| .go <| .seq <| .block <| .seq ?_
    refine .region ?_
    obtain ⟨eb18, eo18, cs18, hd18, hat18, hr18⟩ := SlR.at_ hbv0 (k := k) (by omega)
    cases hd18
    have hx18 := hr18
    obtain ⟨rfl, hx18a, hx18b⟩ := hr18
    refine .e (.indexAddrL sl24 rfl rfl rfl (by omega)) rfl rfl <| .e (.loadIA ag47 sz47 rfl hat18 rfl) rfl rfl <| .on rfl <| .alloc zr47 rfl fun c1 _ _ => .on rfl <| .storeW sz47 rfl rfl rfl rfl rfl rfl .here <| .nil <| .go ?_
    refine .seq <| .region <| .e (.move rfl) rfl rfl <| .e (.fieldAddr fo47_0 rfl) rfl rfl <| .e (.load ag9 rfl .here rfl) rfl rfl <| .on rfl <| .callP cal45 rfl rfl rfl (ktask_ok (.there <| .app <| hb) hk0 hr hsm) ?_
    refine .e (.move rfl) rfl rfl <| .e (.extract rfl rfl) rfl rfl <| .e (.extract rfl rfl) rfl rfl <| .e (.assign rfl) rfl rfl <| .e (.assign rfl) rfl rfl <| .nil ?_
    refine .go <| .seq <| .region <| .e (.move rfl) rfl rfl <| .e (.move rfl) rfl rfl ?_
    refine .split 28 rfl (fun h28 => ?_) (fun h28 => ?_)
    · skip
      refine .e (.fieldAddr fo47_1 rfl) rfl rfl <| .e (.load ag9 rfl .here rfl) rfl rfl <| .e (.move rfl) rfl rfl <| .e (.streq rfl rfl) rfl rfl <| .e (.pickT rfl rfl) rfl rfl <| .nil ?_
      refine .go ?_
      refine .split 33 rfl (fun h33 => ?_) (fun h33 => ?_)
      · skip
        replace h33 := of_decide_eq_true h33
        refine .cond_true rfl <| .region <| .e (.move rfl) rfl rfl <| .e (.move rfl) rfl rfl <| .e (.nilCheck rfl) rfl rfl <| .e (.fieldAddr fo66_0 rfl) rfl rfl ?_
        refine .e (.fieldAddr fo27_1 rfl) rfl rfl <| .e (.load ag23 rfl (.there <| .app <| hb) rfl) rfl rfl <| .e (.move rfl) rfl rfl ?_
        obtain ⟨eb41, eo41, cs41, hd41, hat41, hr41⟩ := SlR.at_ htv0 (k := posBy (fun x : Tsk => x.name) b.tasks (b.binds[k]'(by omega)).task) (has_get hr h28).1
        cases hd41
        have ht41 := hr41
        obtain ⟨xw41, xb41, rfl, hxw41, hxb41⟩ := hr41.ex
        obtain ⟨xa41, xc41, rfl, -⟩ := hxw41
        obtain ⟨xd41, xe41, rfl, -⟩ := hxb41
        refine .e (.indexAddrL sl23 rfl rfl rfl (has_get hr h28).1) rfl rfl <| .e (.loadIA ag34 sz34 rfl hat41 rfl) rfl rfl <| .on rfl <| .buildSlice Tryz.underlying23 sz34 (by decide) (by decide) zv34 rfl rfl rfl rfl rfl fun c2 _ _ => .on rfl <| .append Tryz.underlying23 Tryz.underlying23 sz34 by34 zv34 rfl rfl rfl (.there <| .there <| .front) hoL ((OwnS.made (k := 9) rfl (by decide)).src (I := _) .here) rfl rfl (by omega) (by omega) rfl fun v44 ob44 ho44 => .e (.assign rfl) rfl rfl <| .nil ?_
        refine .blk_normal <| .go <| .region <| .e (.add rfl rfl (by first | exact wrap_succ (by omega) | exact IntWalk.i64_in _ (by omega) | exact rfl)) rfl rfl <| .e (.move rfl) rfl rfl <| .nil ?_
        refine .front1 (.app <| .here) ?_
        refine .tail ?_
        refine .front1 (.app <| .here) ?_
        refine .tail ?_
        have e5 := there_yes (s := s) (k := k) (by omega) hr h28 h33
        have e6 : (thereTo b s (k + 1)).length = (thereTo b s k).length + 1 := by rw [e5, List.length_append]; rfl
        exact .mid ((k + 1, _, _, _)) ⟨by dsimp only; omega, by dsimp only; omega, by dsimp only; rw [e6]; exact ho44, by dsimp only; rw [e5]; exact hdL.append (DR.single rfl ht41)⟩ ⟨rfl, rfl, trivial⟩ rfl rfl (.pre 37 rfl (.app rfl .base))
      · skip
        replace h33 := of_decide_eq_false h33
        refine .cond_false rfl <| .skip <| .blk_normal <| .go <| .region <| .e (.add rfl rfl (by first | exact wrap_succ (by omega) | exact IntWalk.i64_in _ (by omega) | exact rfl)) rfl rfl ?_
        refine .e (.move rfl) rfl rfl <| .nil ?_
        refine .tail ?_
        have e5 := there_no (s := s) (k := k) (by omega) (.inr h33)
        exact .mid ((k + 1, _, wsL, obL)) ⟨by dsimp only; omega, by dsimp only; omega, by dsimp only; rw [e5]; exact hoL, by dsimp only; rw [e5]; exact hdL⟩ ⟨rfl, rfl, trivial⟩ rfl rfl (.pre 25 rfl (.app rfl .base))
    · skip
      refine .off rfl rfl <| .off rfl rfl <| .off rfl rfl <| .off rfl rfl <| .e (.pickF rfl rfl) rfl rfl <| .nil ?_
      refine .go <| .cond_false rfl <| .skip <| .blk_normal <| .go <| .region ?_
      refine .e (.add rfl rfl (by first | exact wrap_succ (by omega) | exact IntWalk.i64_in _ (by omega) | exact rfl)) rfl rfl <| .e (.move rfl) rfl rfl <| .nil ?_
      refine .tail ?_
      have e5 := there_no (s := s) (k := k) (by omega) (.inl h28)
      exact .mid ((k + 1, _, wsL, obL)) ⟨by dsimp only; omega, by dsimp only; omega, by dsimp only; rw [e5]; exact hoL, by dsimp only; rw [e5]; exact hdL⟩ ⟨rfl, rfl, trivial⟩ rfl rfl (.pre 24 rfl (.app rfl .base))
  · skip
    replace h17 := of_decide_eq_false h17
    refine .cond_false rfl <| .exit <| .exit <| .exit <| .blk_exit <| .go ?_
    refine .seq <| .region <| .e (.move rfl) rfl rfl <| .e (.assign rfl) rfl rfl <| .nil <| .go ?_
    refine .ret ?_
    refine .freezeS hoL fun K hK hKs => ?_
    have hy : TsksR K _ (thereTo b s k) := hKs (R := TskR) (hdL.mono fun _ _ h => h.mono hK) rfl
    have ee := there_end (b := b) (s := s) (k := k) (by omega)
    refine Post.rets rfl (.tmp rfl .nil) rfl hK (fun w h => h) ?_
    refine ⟨rfl, ?_⟩
    rw [← ee]
    exact hy

end Go.Proofs.YtajpakifkinadaaGreatDoor
