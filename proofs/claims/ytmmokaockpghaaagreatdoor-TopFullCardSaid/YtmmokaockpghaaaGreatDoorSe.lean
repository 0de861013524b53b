/- Walks of functions over a symbolic memory, printed by a program of the session. -/
import Derived.Test.YtmmokaockpghaaaGreatDoorSd
namespace Go.Proofs.YtmmokaockpghaaaGreatDoor
open Go.Sy
set_option linter.unusedSimpArgs false
set_option linter.unusedVariables false

theorem setL_in {ws : List Value} {p m q : Nat} {v : Value} (hq : q < m) (h : p + m ≤ ws.length) : setL ws (p + q) [v] = setL ws p (((ws.drop p).take m).set q v) := by
  have hl : (((ws.drop p).take m).set q v).length = m := by rw [List.length_set, List.length_take, List.length_drop]; omega
  unfold setL
  rw [hl, List.length_singleton]
  have e1 : ws.take (p + q) = ws.take p ++ (ws.drop p).take q := List.take_add
  have e2 : ((ws.drop p).take m).set q v = (ws.drop p).take q ++ ([v] ++ ((ws.drop p).take m).drop (q + 1)) := by
    have hs := List.set_eq_take_append_cons_drop (l := (ws.drop p).take m) (i := q) (a := v)
    rw [if_pos (by rw [List.length_take, List.length_drop]; omega)] at hs
    rw [hs, List.take_take, Nat.min_eq_left (by omega)]; rfl
  have e3 : ((ws.drop p).take m).drop (q + 1) ++ ws.drop (p + m) = ws.drop (p + q + 1) := by
    have h1 : ws.drop (p + m) = (ws.drop p).drop m := by rw [List.drop_drop]
    have h2 : ws.drop (p + q + 1) = (ws.drop p).drop (q + 1) := by rw [List.drop_drop]; congr 1
    rw [h1, h2]
    have h3 : (ws.drop p).drop (q + 1) = ((ws.drop p).take m ++ (ws.drop p).drop m).drop (q + 1) := by rw [List.take_append_drop]
    rw [h3, List.drop_append_of_le_length (by rw [List.length_take, List.length_drop]; omega)]
  rw [e1, e2, ← e3]
  simp only [List.append_assoc]
theorem own_setO {cs ws : List Value} {v : Value} {n k q m cap b : Nat} {T : TypeId} (hw : cs.take (n * m) = ws) (hk : k < n) (hq : q < m) (hn : n ≤ cap) (hc : cs.length = cap * m) (hl : ws.length = n * m) (hm : cap ≤ 9223372036854775807) :
    OwnS m (.slice (some ⟨b, 0, none⟩) n cap) n (setL ws (k * m + q) [v]) [(b, .cells ⟨setL cs (0 + k * m + q) [v]⟩ T (0, 0))] := by
  have h1 : k * m + m ≤ n * m := by rw [← Nat.succ_mul]; exact Nat.mul_le_mul_right m hk
  have h2 : n * m ≤ cap * m := Nat.mul_le_mul_right m hn
  have e : 0 + k * m + q = k * m + q := by omega
  rw [e]
  refine .inr ⟨b, cap, _, T, rfl, rfl, hn, ?_, ?_, ?_, hm⟩
  · rw [setL_length (by simp; omega), hc]
  · rw [setL_take (by simp; omega) (by omega), hw]
  · rw [setL_length (by simp; omega), hl]
def fenTo (f : Int) (L : List Ordr) (k : Nat) : List Ordr := (L.take k).map (withF f) ++ L.drop k
theorem fenTo_zero {f : Int} {L : List Ordr} : fenTo f L 0 = L := rfl
theorem fenTo_len {f : Int} {L : List Ordr} {k : Nat} : (fenTo f L k).length = L.length := by unfold fenTo; rw [List.length_append, List.length_map, ← List.length_append, List.take_append_drop]
theorem fenTo_end {f : Int} {L : List Ordr} {k : Nat} (h : L.length ≤ k) : fenTo f L k = L.map (withF f) := by unfold fenTo; rw [List.take_of_length_le h, List.drop_of_length_le h, List.append_nil]
theorem fenTo_at {f : Int} {L : List Ordr} {k : Nat} (h : k < L.length) : (fenTo f L k)[k]? = some L[k] := by
  unfold fenTo
  rw [List.getElem?_append_right (by rw [List.length_map, List.length_take]; omega), List.getElem?_drop]
  rw [List.length_map, List.length_take, show k + (k - min k L.length) = k by omega, List.getElem?_eq_getElem h]
theorem fenTo_step {f : Int} {L : List Ordr} {k : Nat} (h : k < L.length) : (fenTo f L k).set k (withF f L[k]) = fenTo f L (k + 1) := by
  unfold fenTo
  have hl : ((L.take k).map (withF f)).length = k := by rw [List.length_map, List.length_take]; omega
  rw [List.set_append_right _ _ (by omega), hl, Nat.sub_self, List.drop_eq_getElem_cons h, List.take_succ_eq_append_getElem h, List.map_append]
  simp
  rw [List.drop_eq_getElem_cons h]; rfl
theorem dr_fence {I : Imm} {ws : List Value} {L : List Ordr} {f : Int} {k : Nat} (h : DR OrdrR 19 I ws (fenTo f L k)) (hk : k < L.length) (hf : U64 f) : DR OrdrR 19 I (setL ws (k * 19 + 18) [.int .u64 f]) (fenTo f L (k + 1)) := by
  have h1 := h.2 k L[k] (fenTo_at hk)
  have hwl := h.1
  rw [fenTo_len] at hwl
  obtain ⟨a, b, c, d, he, hn, g1, g2, ht, g3, g4⟩ := h1.ex
  rw [setL_in (p := k * 19) (m := 19) (by decide) (by omega), he, ← fenTo_step hk]
  have hx : OrdrR I ((L[k].cells a b c d).set 18 (.int .u64 f)) (withF f L[k]) := ⟨⟨a, b, c, d, rfl, hn, g1, g2, ht, g3, g4⟩, h1.kind, h1.name, h1.on, hf⟩
  exact dr_setX h (by rw [fenTo_len]; exact hk) (by rw [List.length_set]; rfl) hx
theorem planR_len {b : Bk} {most : Nat} : (planR b most).1.length ≤ most := by
  unfold planR
  split
  · exact (plan_run (by assumption) _).2
  · exact Nat.zero_le _

set_option maxHeartbeats 8000000 in
set_option maxRecDepth 20000 in
theorem Plan_ok {I : Imm} {O : Own} {kc : List Value} {b : Bk} (hk : BkR I kc b) {f : Int} (hf : U64 f) :
    Go.Sy.Does Tryz.prog 28 [.agg ⟨kc⟩, .int .u64 f] I O (fun u I' O' => ∃ v ws ob, u = .tuple ⟨[v, .int .i64 (planQ b f).2]⟩ ∧ OwnS 19 v (planQ b f).1.length ws ob ∧ DR OrdrR 19 I' ws (planQ b f).1 ∧ O' = ob ++ O) := by
  have hk0 := hk
  obtain ⟨nv, tv, bv, rfl, hnv, htv, hbv⟩ := hk.ex
  have hnv0 := hnv
  have htv0 := htv
  have hbv0 := hbv
  obtain ⟨na, ncap, rfl, hn1, hn2, -⟩ := hnv
  obtain ⟨ta, tcap, rfl, ht1, ht2, -⟩ := htv
  obtain ⟨ba, bcap, rfl, hb1, hb2, -⟩ := hbv
  refine Go.Sy.Does.enter Tryz.func28 rfl Tryz.ntmps28 rfl ?_
  refine .seq <| .region <| .on rfl <| .box rfl rfl rfl fun c1 _ _ => .e (.assign rfl) rfl rfl <| .e (.assign rfl) rfl rfl <| .nil ?_
  refine .go <| .seq <| .region <| .e (.loadW ag27 sz27 rfl .here rfl) rfl rfl <| .on rfl <| .call cal80 rfl rfl rfl (plan_ok (most := 8) hk0 (by decide)) fun v11 I11 O11 hI11 hK11 => ?_
  obtain ⟨L, e, hL⟩ : ∃ L e, planR b 8 = (L, e) := ⟨_, _, rfl⟩
  have hLl := planR_len (b := b) (most := 8)
  rw [hL] at hK11 hLl
  dsimp only at hK11 hLl
  obtain ⟨u11, ws11, ob11, rfl, ho11, hd11, rfl⟩ := hK11
  obtain ⟨ad11, cap11, rfl⟩ := ho11.form
  refine .e (.move rfl) rfl rfl <| .e (.extract rfl rfl) rfl rfl <| .e (.extract rfl rfl) rfl rfl <| .e (.assign rfl) rfl rfl <| .e (.assign rfl) rfl rfl <| .nil ?_
  refine .go <| .seq <| .seq <| .region <| .e (.move rfl) rfl rfl <| .e (.len sl66 rfl rfl) rfl rfl ?_
  refine .e (.move rfl) rfl rfl <| .nil <| .go <| .block ?_
  refine .loopM [8, 16, 17, 18, 19, 20, 21, 22, 23, 24] (fun s => L.length - s.1) (fun s => s.1 ≤ L.length ∧ OwnS 19 (.slice ad11 L.length cap11) L.length s.2.1 s.2.2 ∧ DR OrdrR 19 I11 s.2.1 (fenTo f L s.1)) (fun s => [(16, .int .i64 s.1)]) (fun _ => _) (fun s => s.2.2 ++ _) (((0, ws11, ob11) : Nat × List Value × Own)) ⟨Nat.zero_le _, ho11, hd11⟩ ⟨rfl, trivial⟩ rfl rfl ?_
  intro ⟨k, ws, ob⟩ hk
  dsimp only at hk ⊢
  obtain ⟨hkk, ho, hd⟩ := hk
  refine .seq <| .region <| .e (.lss rfl rfl) rfl rfl <| .nil <| .go <| .seq ?_
  refine .split 17 rfl (fun h17 => ?_) (fun h17 => ?_)
  · skip
    replace h17 := of_decide_eq_true h17
    refine .cond_true rfl <| .skip <| .go <| .seq <| .block <| .seq ?_
    refine .region <| .e (.move rfl) rfl rfl <| .e (.assign rfl) rfl rfl <| .nil <| .go <| .region ?_
    refine .e (.move rfl) rfl rfl <| .e (.move rfl) rfl rfl <| .e (.move rfl) rfl rfl ?_
    obtain ⟨_, h0, _, _⟩ | ⟨bL, capL, csL, TL, hv5, rfl, hc1, hc2, hc3, hc4, hc5⟩ := ho
    · omega
    cases hv5
    simp only [@List.singleton_append (Nat × Obj)]
    refine .e (.indexAddrL sl66 rfl rfl rfl (by omega)) rfl rfl <| .e (.fieldAddr fo65_5 rfl) rfl rfl <| .on rfl <| .store sz25 rfl rfl rfl rfl rfl (Nat.ble_eq_true_of_le (by first | omega | (simp; omega))) .here <| .nil <| .blk_normal <| .go ?_
    refine .region <| .e (.add rfl rfl (by first | exact wrap_succ (by omega) | exact IntWalk.i64_in _ (by omega) | exact rfl)) rfl rfl <| .e (.move rfl) rfl rfl <| .nil ?_
    exact .mid ((k + 1, _, _)) ⟨by dsimp only; omega, by dsimp only; omega, own_setO hc3 (by omega) (by decide) hc1 hc2 hc4 hc5, dr_fence hd (by omega) hf⟩ ⟨rfl, trivial⟩ rfl rfl (.pre 11 rfl (.app rfl .base))
  · skip
    replace h17 := of_decide_eq_false h17
    refine .cond_false rfl <| .exit <| .exit <| .exit <| .blk_exit <| .go ?_
    refine .seq <| .region <| .e (.move rfl) rfl rfl <| .e (.move rfl) rfl rfl <| .e (.assign rfl) rfl rfl <| .e (.assign rfl) rfl rfl ?_
    refine .nil <| .go <| .ret ?_
    refine .front1 (.app <| .here) ?_
    refine .tail ?_
    refine Post.rets rfl (.tmp rfl (.tmp rfl .nil)) rfl hI11 (fun w h => h) ?_
    have hdE : DR OrdrR 19 I11 ws (L.map (withF f)) := by rw [← fenTo_end (f := f) (show L.length ≤ k by omega)]; exact hd
    rw [show planQ b f = (L.map (withF f), e) by unfold planQ; rw [hL]]
    exact ⟨_, _, ob, rfl, by dsimp only; rw [List.length_map]; exact ho, hdE, rfl⟩

section
variable {I : Imm} {O : Own} {kc : List Value} {b : Bk} (hk : BkR I kc b)
include hk
theorem planF {most : Nat} (hm : most ≤ 8) : Go.Sy.Does Tryz.prog 80 [.agg ⟨kc⟩, .int .i64 (most : Nat)] I O fun u I' O' => O' = O ∧ ∃ v, u = .tuple ⟨[v, .int .i64 (planR b most).2]⟩ ∧ SlR OrdrR 19 I' v (planR b most).1 := frzL (R := OrdrR) (fun h x => OrdrR.mono h x) (plan_ok hk hm)
theorem PlanF {f : Int} (hf : U64 f) : Go.Sy.Does Tryz.prog 28 [.agg ⟨kc⟩, .int .u64 f] I O fun u I' O' => O' = O ∧ ∃ v, u = .tuple ⟨[v, .int .i64 (planQ b f).2]⟩ ∧ SlR OrdrR 19 I' v (planQ b f).1 := frzL (R := OrdrR) (fun h x => OrdrR.mono h x) (Plan_ok hk hf)
end

set_option maxHeartbeats 1000000 in
set_option maxRecDepth 20000 in
theorem Quiet_ok {I : Imm} {O : Own} {kc : List Value} {b : Bk} (hk : BkR I kc b) :
    Pure Tryz.prog 30 [.agg ⟨kc⟩] I O (.tuple ⟨[.bool (quietR b).1, .int .i64 (quietR b).2]⟩) := by
  have hk0 := hk
  obtain ⟨nv, tv, bv, rfl, hnv, htv, hbv⟩ := hk.ex
  have hnv0 := hnv
  have htv0 := htv
  have hbv0 := hbv
  obtain ⟨na, ncap, rfl, hn1, hn2, -⟩ := hnv
  obtain ⟨ta, tcap, rfl, ht1, ht2, -⟩ := htv
  obtain ⟨ba, bcap, rfl, hb1, hb2, -⟩ := hbv
  refine Go.Sy.Does.enter Tryz.func30 rfl Tryz.ntmps30 rfl ?_
  refine .seq <| .region <| .on rfl <| .box rfl rfl rfl fun c1 _ _ => .e (.assign rfl) rfl rfl <| .e (.assign rfl) rfl rfl <| .nil ?_
  refine .go <| .seq <| .region <| .e (.loadW ag27 sz27 rfl .here rfl) rfl rfl <| .on rfl <| .call cal80 rfl rfl rfl (planF (most := 1) hk0 (by decide)) fun v8 I8 O8 hI8 hK8 => ?_
  obtain ⟨W, e, hW⟩ : ∃ W e, planR b 1 = (W, e) := ⟨_, _, rfl⟩
  rw [hW] at hK8
  dsimp only at hK8
  obtain ⟨rfl, u8, rfl, hl8⟩ := hK8
  have hl80 := hl8
  obtain ⟨la8, lc8, rfl, hl81, hl82, -⟩ := hl8
  refine .e (.move rfl) rfl rfl <| .e (.extract rfl rfl) rfl rfl <| .e (.extract rfl rfl) rfl rfl <| .e (.assign rfl) rfl rfl <| .e (.assign rfl) rfl rfl <| .nil ?_
  refine .go <| .seq <| .region <| .e (.move rfl) rfl rfl <| .e (.eql rfl rfl) rfl rfl <| .e (.move rfl) rfl rfl ?_
  refine .split 13 rfl (fun h13 => ?_) (fun h13 => ?_)
  · skip
    replace h13 := of_decide_eq_true h13
    refine .e (.move rfl) rfl rfl <| .e (.len sl66 rfl rfl) rfl rfl <| .e (.eql rfl rfl) rfl rfl <| .e (.pickT rfl rfl) rfl rfl <| .e (.move rfl) rfl rfl <| .e (.assign rfl) rfl rfl ?_
    refine .e (.assign rfl) rfl rfl <| .nil <| .go <| .ret ?_
    refine .back hI8 ?_
    refine Post.retsE rfl (.tmp rfl (.tmp rfl .nil)) rfl (fun w h => h.tail) ?_
    have hq : quietR b = (decide (e = 0) && decide (W.length = 0), e) := by unfold quietR; rw [hW]
    rw [hq]
    simp [h13]
  · skip
    replace h13 := of_decide_eq_false h13
    refine .off rfl rfl <| .off rfl rfl <| .off rfl rfl <| .e (.pickF rfl rfl) rfl rfl <| .e (.move rfl) rfl rfl <| .e (.assign rfl) rfl rfl ?_
    refine .e (.assign rfl) rfl rfl <| .nil <| .go <| .ret ?_
    refine .back hI8 ?_
    refine Post.retsE rfl (.tmp rfl (.tmp rfl .nil)) rfl (fun w h => h.tail) ?_
    have hq : quietR b = (decide (e = 0) && decide (W.length = 0), e) := by unfold quietR; rw [hW]
    rw [hq]
    simp [h13]

def sn : Nod := ⟨⟨#[110]⟩, ⟨5, 0, 0⟩, [], []⟩
def stk (c : UInt8) (r : Int) : Tsk := ⟨⟨#[c]⟩, ⟨3, 0, 0⟩, [], [], ⟨#[]⟩, ⟨#[]⟩, r⟩
def sbk : Bk := ⟨[sn], [stk 97 1, stk 98 2], [], 0⟩
theorem sq1 : planQ sbk 7 = ([ordB ⟨#[98]⟩ ⟨#[110]⟩ 7], 0) := by decide +kernel
theorem sq2 : quietR sbk = (false, 0) := by decide +kernel
theorem sq3 : quietR bk0 = (true, 0) := by decide +kernel
def quV (p : Bool × Int) : Value := .tuple ⟨[.bool p.1, .int .i64 p.2]⟩
theorem quV_of {p : Bool × Int} {a : Bool} {b : Int} (h : p = (a, b)) : Value.tuple ⟨[.bool p.1, .int .i64 p.2]⟩ = .tuple ⟨[.bool a, .int .i64 b]⟩ := by rw [h]
theorem snR {J : Imm} : NodR J (sn.cells nilQ nilQ) sn := ⟨⟨_, _, rfl, SlR.nil, SlR.nil⟩, by unfold StrOk sn; decide, by unfold A3.ok I64 sn; decide⟩
theorem stR {J : Imm} {c : UInt8} {r : Int} (hr : -100 ≤ r ∧ r ≤ 100) : TskR J ((stk c r).cells nilQ nilQ) (stk c r) := ⟨⟨_, _, rfl, SlR.nil, SlR.nil⟩, by unfold StrOk; show 1 ≤ _; decide, by unfold A3.ok I64 stk; dsimp only; decide, (show StrOk ⟨#[]⟩ from e1_), (show StrOk ⟨#[]⟩ from e1_), by unfold I64 stk; dsimp only; omega⟩
theorem bkZ {J : Imm} : BkR J [nilQ, nilQ, nilQ, .int .u64 0] bk0 := ⟨⟨_, _, _, rfl, SlR.nil, SlR.nil, SlR.nil⟩, e4_⟩

set_option maxHeartbeats 16000000 in
set_option maxRecDepth 20000 in
theorem slives_ok {I : Imm} {O : Own}  :
    Pure Tryz.prog 32 [] I O (.bool true) := by
  refine Go.Sy.Does.enter Tryz.func32 rfl Tryz.ntmps32 rfl ?_
  refine .seq <| .region <| .e (.assign rfl) rfl rfl <| .nil <| .go <| .seq ?_
  refine .region <| .e (.buildA ar39 zv39 rfl rfl) rfl rfl <| .e (.build bs45 zv45 rfl rfl) rfl rfl <| .on rfl <| .buildSlice Tryz.underlying22 sz45 (by decide) (by decide) zv45 rfl rfl rfl rfl rfl fun c1 _ _ => .e (.buildA ar39 zv39 rfl rfl) rfl rfl <| .e (.build bs42 zv42 rfl rfl) rfl rfl ?_
  refine .e (.buildA ar39 zv39 rfl rfl) rfl rfl <| .e (.build bs42 zv42 rfl rfl) rfl rfl <| .on rfl <| .buildSlice Tryz.underlying23 sz42 (by decide) (by decide) zv42 rfl rfl rfl rfl rfl fun c2 _ _ => .e (.build bs27 zv27 rfl rfl) rfl rfl <| .on rfl <| .alloc zr27 rfl fun c3 _ _ => .on rfl <| .storeW sz27 rfl rfl rfl rfl rfl rfl .here ?_
  refine .nil <| .go <| .seq <| .region <| .e (.loadW ag27 sz27 rfl .here rfl) rfl rfl ?_
  refine .front1 (.there <| .here) ?_
  refine .front1 (.there <| .there <| .here) ?_
  refine .freeze fun J1 hJ1 hJ1b => ?_
  have hN1 : NodsR J1 (.slice (some ⟨c1, 0, none⟩) 1 1) [sn] := SlR.ofRow (R := NodR) hJ1b (DR.single rfl snR) rfl (Nat.le_refl 1) (by decide)
  refine .freeze fun J2 hJ2 hJ2b => ?_
  have hT2 : TsksR J2 (.slice (some ⟨c2, 0, none⟩) 2 2) [stk 97 1, stk 98 2] := SlR.ofRow (R := TskR) hJ2b (show DR TskR 9 J2 ((stk 97 1).cells nilQ nilQ ++ (stk 98 2).cells nilQ nilQ) ([stk 97 1] ++ [stk 98 2]) from (DR.single rfl (stR (by decide))).append (DR.single rfl (stR (by decide)))) rfl (Nat.le_refl 2) (by decide)
  have hB : BkR J2 (sbk.cells (.slice (some ⟨c1, 0, none⟩) 1 1) (.slice (some ⟨c2, 0, none⟩) 2 2) nilQ) sbk := ⟨⟨_, _, _, rfl, hN1.mono hJ2, hT2, SlR.nil⟩, by unfold U64 sbk; decide⟩
  refine .on rfl <| .call cal28 rfl rfl rfl (PlanF hB (by unfold U64; decide)) fun v19 I19 O19 hI19 hK19 => ?_
  rw [sq1] at hK19
  dsimp only at hK19
  obtain ⟨rfl, u19, rfl, hl19⟩ := hK19
  have hl190 := hl19
  obtain ⟨la19, lc19, rfl, hl191, hl192, -⟩ := hl19
  refine .e (.move rfl) rfl rfl <| .e (.extract rfl rfl) rfl rfl <| .e (.extract rfl rfl) rfl rfl <| .e (.assign rfl) rfl rfl <| .e (.assign rfl) rfl rfl <| .nil ?_
  refine .go <| .seq <| .region <| .e (.loadW ag27 sz27 rfl .here rfl) rfl rfl <| .on rfl <| .callP cal30 rfl rfl rfl ((Quiet_ok (hB.mono hI19)).cast (quV_of sq2)) <| .e (.move rfl) rfl rfl ?_
  refine .e (.extract rfl rfl) rfl rfl <| .e (.extract rfl rfl) rfl rfl <| .e (.assign rfl) rfl rfl <| .e (.assign rfl) rfl rfl <| .nil <| .go ?_
  refine .seq <| .region <| .e (.build bs27 zv27 rfl rfl) rfl rfl <| .on rfl <| .callP cal30 rfl rfl rfl ((Quiet_ok bkZ).cast (quV_of sq3)) <| .e (.move rfl) rfl rfl <| .e (.extract rfl rfl) rfl rfl ?_
  refine .e (.extract rfl rfl) rfl rfl <| .e (.assign rfl) rfl rfl <| .e (.assign rfl) rfl rfl <| .nil <| .go <| .seq ?_
  refine .region <| .e (.move rfl) rfl rfl <| .e (.len sl66 rfl rfl) rfl rfl <| .e ((EV.cast (u := .bool true) (.eql rfl rfl) (congrArg Value.bool (by decide)))) rfl rfl <| .e (.move rfl) rfl rfl <| .e (.move rfl) rfl rfl ?_
  obtain ⟨eb37, eo37, cs37, hd37, hat37, hr37⟩ := SlR.at_ hl190 (k := 0) (by decide)
  cases hd37
  have ho37 := hr37
  obtain ⟨lo37, to37, wo37, bo37, rfl, hon37, xa37, xb37, hot37, xc37, xd37⟩ := hr37.ex
  obtain ⟨_, _, rfl, -⟩ := xa37
  obtain ⟨_, _, rfl, -⟩ := xb37
  obtain ⟨_, _, rfl, -⟩ := xc37
  obtain ⟨_, _, rfl, -⟩ := xd37
  refine .e (.indexAddrL sl66 rfl rfl rfl (by decide)) rfl rfl <| .e (.fieldAddr fo65_3 rfl) rfl rfl <| .e (.loadI ag9 rfl (hat37.cell (j := 16) rfl)) rfl rfl <| .e ((EV.cast (u := .bool true) (.streq rfl rfl) (congrArg Value.bool (by decide)))) rfl rfl <| .e (.pickT rfl rfl) rfl rfl <| .e (.move rfl) rfl rfl ?_
  refine .e (.move rfl) rfl rfl ?_
  obtain ⟨eb44, eo44, cs44, hd44, hat44, hr44⟩ := SlR.at_ hl190 (k := 0) (by decide)
  cases hd44
  have ho44 := hr44
  obtain ⟨lo44, to44, wo44, bo44, rfl, hon44, xa44, xb44, hot44, xc44, xd44⟩ := hr44.ex
  obtain ⟨_, _, rfl, -⟩ := xa44
  obtain ⟨_, _, rfl, -⟩ := xb44
  obtain ⟨_, _, rfl, -⟩ := xc44
  obtain ⟨_, _, rfl, -⟩ := xd44
  refine .e (.indexAddrL sl66 rfl rfl rfl (by decide)) rfl rfl <| .e (.fieldAddr fo65_4 rfl) rfl rfl <| .e (.loadI ag9 rfl (hat44.cell (j := 17) rfl)) rfl rfl <| .e ((EV.cast (u := .bool true) (.streq rfl rfl) (congrArg Value.bool (by decide)))) rfl rfl <| .e (.pickT rfl rfl) rfl rfl <| .e (.move rfl) rfl rfl ?_
  refine .e (.move rfl) rfl rfl ?_
  obtain ⟨eb51, eo51, cs51, hd51, hat51, hr51⟩ := SlR.at_ hl190 (k := 0) (by decide)
  cases hd51
  have ho51 := hr51
  obtain ⟨lo51, to51, wo51, bo51, rfl, hon51, xa51, xb51, hot51, xc51, xd51⟩ := hr51.ex
  obtain ⟨_, _, rfl, -⟩ := xa51
  obtain ⟨_, _, rfl, -⟩ := xb51
  obtain ⟨_, _, rfl, -⟩ := xc51
  obtain ⟨_, _, rfl, -⟩ := xd51
  refine .e (.indexAddrL sl66 rfl rfl rfl (by decide)) rfl rfl <| .e (.fieldAddr fo65_5 rfl) rfl rfl <| .e (.loadI ag25 rfl (hat51.cell (j := 18) rfl)) rfl rfl <| .e ((EV.cast (u := .bool true) (.eql rfl rfl) (congrArg Value.bool (by decide)))) rfl rfl <| .e (.pickT rfl rfl) rfl rfl <| .e (.move rfl) rfl rfl ?_
  refine .e (.move rfl) rfl rfl <| .e ((EV.cast (u := .bool true) (.eql rfl rfl) (congrArg Value.bool (by decide)))) rfl rfl <| .e (.pickT rfl rfl) rfl rfl <| .e (.move rfl) rfl rfl <| .e (.move rfl) rfl rfl <| .e ((EV.cast (u := .bool true) (.not rfl) (congrArg Value.bool (by decide)))) rfl rfl ?_
  refine .e (.pickT rfl rfl) rfl rfl <| .e (.move rfl) rfl rfl <| .e (.move rfl) rfl rfl <| .e ((EV.cast (u := .bool true) (.eql rfl rfl) (congrArg Value.bool (by decide)))) rfl rfl <| .e (.pickT rfl rfl) rfl rfl <| .e (.move rfl) rfl rfl ?_
  refine .e (.move rfl) rfl rfl <| .e (.pickT rfl rfl) rfl rfl <| .e (.move rfl) rfl rfl <| .e (.move rfl) rfl rfl <| .e ((EV.cast (u := .bool true) (.eql rfl rfl) (congrArg Value.bool (by decide)))) rfl rfl <| .e (.pickT rfl rfl) rfl rfl ?_
  refine .e (.assign rfl) rfl rfl <| .nil <| .go <| .ret ?_
  refine .tail ?_
  refine .back (Imm.le_trans (Imm.le_trans hJ1 hJ2) hI19) ?_
  refine Post.retE rfl rfl ?_
  rfl

theorem bookWhy0 {b : Bk} (h : bookOk b = true) : bookWhy b = 0 := by unfold bookWhy; rw [if_pos h]
theorem quiet_bad {b : Bk} (h : ¬bookOk b = true) : (quietR b).1 = false := by unfold quietR planR; rw [if_neg h]; rfl
theorem Run.sz {b c : Bk} {l : List Ordr} (h : Run b l c) : ∀ o ∈ l, ∃ t n f, o = ordB t n f ∧ t.size ≤ 32 ∧ n.size ≤ 32 := by
  induction h with
  | nil h => intro o ho; cases ho
  | @snoc c l task on h hc ht ih =>
    intro o ho
    rcases List.mem_append.1 ho with ho | ho
    · exact ih o ho
    · have hok := BookOk.of h.ok.1
      obtain ⟨t', n', g1, g2, _⟩ := can_zero hc
      have k1 := (find_iff hok.rt).1 g1
      have k2 := (find_iff hok.rn).1 g2
      have s1 := tsk_nm (hok.tsk t' k1.1)
      have s2 := nod_nm (hok.nod n' k2.1)
      rw [k1.2] at s1
      rw [k2.2] at s2
      exact ⟨task, on, c.fence, List.mem_singleton.1 ho, s1, s2⟩
theorem planQ_sz {b : Bk} {f : Int} : ∀ o ∈ (planQ b f).1, OrdS o := by
  intro o ho
  unfold planQ planR at ho
  dsimp only at ho
  obtain ⟨p, hp, rfl⟩ := List.mem_map.1 ho
  split at hp
  · rename_i hb
    obtain ⟨t, n, g, rfl, h1, h2⟩ := (plan_run (most := 8) hb (waitR b)).1.sz p hp
    exact ⟨show (⟨#[]⟩ : ByteArray).size + (⟨#[]⟩ : ByteArray).size + (⟨#[]⟩ : ByteArray).size ≤ 9223372036854775807 by decide, show t.size + n.size ≤ _ by omega⟩
  · cases hp
/-- What a plan says of itself. -/
structure PlanP (b : Bk) (f : Int) (W : List Ordr) (e : Int) : Prop where
  why : e = bookWhy b
  len : W.length ≤ 8
  sz : ∀ o ∈ W, OrdS o
  form : ∀ o ∈ W, ∃ t n, o = ordB t n f
  bad : ¬bookOk b = true → W = []
  quiet : bookOk b = true → (quietR b).1 = decide (W.length = 0)
  run : bookOk b = true → (b.fence ≤ f → (∀ k (hk : k < W.length), (doR (doAll b (W.take k)) W[k]).2.1 = 0) ∧ (doAll b W).binds.length = b.binds.length + W.length) ∧ (f < b.fence → ∀ k (hk : k < W.length), (doR (doAll b (W.take k)) W[k]).2.1 = 14)
theorem PlanP.of {b : Bk} {f : Int} {W : List Ordr} {e : Int} (h : planQ b f = (W, e)) : PlanP b f W e := by
  have e1 : (planQ b f).1 = W := by rw [h]
  have e2 : (planQ b f).2 = e := by rw [h]
  subst e1 e2
  exact ⟨planQ_why, planQ_len, planQ_sz, planQ_forms, planQ_bad, fun hb => quiet_law hb, fun hb => all_law hb⟩
theorem PlanP.fen {b : Bk} {f e : Int} {W : List Ordr} (h : PlanP b f W e) {k : Nat} (hk : k < W.length) : W[k].fence = f := by
  obtain ⟨t, n, e⟩ := h.form _ (List.getElem_mem hk)
  rw [e]; rfl
theorem fence_law {b : Bk} {f g e1 e2 : Int} {W V : List Ordr} (h1 : planQ b f = (W, e1)) (h2 : planQ b g = (V, e2)) : e1 = e2 ∧ W.length = V.length ∧ ∀ k (hk : k < W.length) (hk2 : k < V.length), W[k].name = V[k].name ∧ W[k].on = V[k].on := by
  unfold planQ at h1 h2
  rw [Prod.mk.injEq] at h1 h2
  obtain ⟨rfl, rfl⟩ := h1
  obtain ⟨rfl, rfl⟩ := h2
  refine ⟨rfl, by simp, fun k hk hk2 => ?_⟩
  simp only [List.getElem_map]
  exact ⟨rfl, rfl⟩

end Go.Proofs.YtmmokaockpghaaaGreatDoor
