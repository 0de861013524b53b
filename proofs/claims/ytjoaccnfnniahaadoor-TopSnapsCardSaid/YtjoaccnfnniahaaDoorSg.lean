/- Walks of functions over a symbolic memory, printed by a program of the session. -/
import Derived.Test.YtjoaccnfnniahaaDoorSd
import Derived.Test.YtjoaccnfnniahaaDoorHb
import Derived.Test.YtjoaccnfnniahaaDoorSf
import Derived.Test.YtjoaccnfnniahaaDoorNm
namespace Go.Proofs.YtjoaccnfnniahaaDoor
open Go.Sy
set_option linter.unusedSimpArgs false
set_option linter.unusedVariables false

set_option maxHeartbeats 4000000 in
set_option maxRecDepth 20000 in
theorem snSave_ok {I : Imm} {O : Own} {dc : List Value} {d : Dsk} (hd : DskR I dc d) {D : Dsk} {e : Int} (hsm : d.files.length ≤ 999) {mv : Value} (hm : IntsR I mv [1]) {i i0 : Nat} {n n0 : ByteArray} (hi0 : 0 < i) (hi : i ≤ 1000) (hn : n.size ≤ 1000) (hr : readOk d i0 n0) (hii : i0 ≤ i) (hsz : ∀ f ∈ d.files, f.data.size ≤ 1000000) (h : putR d fS (frameB (snB i n)) = (D, e)) :
    Go.Sy.Does Tryd.prog 6 [.agg ⟨dc⟩, .agg ⟨snV mv i n⟩] I O (fun u I' O' => O' = O ∧ ∃ v, u = .tuple ⟨[.agg ⟨D.cells v⟩, .int .i64 e]⟩ ∧ DskR I' (D.cells v) D) := by
  have hd0 := hd
  obtain ⟨fv, rfl, hfv⟩ := hd.ex
  have hfv0 := hfv
  obtain ⟨fa, fcap, rfl, hf1, hf2, -⟩ := hfv
  have hfz := hd0.fuse
  have hm0 := hm
  obtain ⟨ma, mcap, rfl, hm1, hm2, -⟩ := hm
  have hbz := snB_size hi hn
  refine Go.Sy.Does.enter Tryd.func6 rfl Tryd.ntmps6 rfl ?_
  refine .seq <| .region <| .on rfl <| .box rfl rfl rfl fun c1 _ _ => .on rfl <| .box rfl rfl rfl fun c2 _ _ => .on rfl <| .alloc zr27 rfl fun c3 _ _ => .e (.assign rfl) rfl rfl ?_
  refine .nil <| .go <| .seq <| .region <| .e (.loadW ag30 sz30 rfl (.there <| .here) rfl) rfl rfl <| .on rfl <| .callP cal13 rfl rfl rfl (snCheck_ok hm0 hi0 hn) ?_
  refine .e (.assign rfl) rfl rfl <| .nil <| .go <| .seq <| .seq <| .region ?_
  refine .e (.move rfl) rfl rfl <| .e (.eql rfl rfl) rfl rfl <| .nil <| .go <| .cond_true rfl <| .seq ?_
  refine .region <| .on rfl <| .alloc zr30 rfl fun c4 _ _ => .nil <| .go <| .seq <| .region ?_
  refine .e (.loadW ag27 sz27 rfl (.there <| .there <| .there <| .here) rfl) rfl rfl <| .on rfl <| .call cal8 rfl rfl rfl (snLoad_ok hd0 hr) fun v16 I16 O16 hI16 hK16 => ?_
  obtain ⟨la16, ll16, lc16, rfl, rfl⟩ := hK16
  refine .e (.move rfl) rfl rfl <| .e (.extract rfl rfl) rfl rfl <| .e (.extract rfl rfl) rfl rfl <| .on rfl <| .storeW sz30 rfl rfl rfl rfl rfl rfl .here <| .e (.assign rfl) rfl rfl <| .nil ?_
  refine .go <| .seq <| .region <| .e (.move rfl) rfl rfl <| .e (.eql rfl rfl) rfl rfl <| .e (.move rfl) rfl rfl ?_
  refine .e (.fieldAddr fo30_0 rfl) rfl rfl <| .e (.load ag28 rfl .here rfl) rfl rfl <| .e (.fieldAddr fo30_0 rfl) rfl rfl <| .e (.load ag28 rfl (.there <| .there <| .here) rfl) rfl rfl <| .e ((EV.cast (u := .bool false) (.gtr rfl rfl) (congrArg Value.bool (decide_eq_false (by omega))))) rfl rfl <| .e (.pickT rfl rfl) rfl rfl ?_
  refine .nil <| .go <| .cond_false rfl <| .skip <| .go <| .seq ?_
  refine .block <| .seq <| .region <| .e (.move rfl) rfl rfl <| .e (.eql rfl rfl) rfl rfl <| .e (.assign rfl) rfl rfl ?_
  refine .nil <| .go <| .cond_true rfl <| .seq <| .region <| .e (.loadW ag30 sz30 rfl (.there <| .there <| .here) rfl) rfl rfl ?_
  refine .on rfl <| .callP cal15 rfl rfl rfl (snBytes_ok (IntsR.mono hI16 hm0) hi hn) <| .on rfl <| .callP cal14 rfl rfl rfl ((Frame_ok (p := snB i n) (by unfold StrOk; omega)).cast (congrArg (fun p : ByteArray × Int => Value.tuple ⟨[.string p.1, .int .i64 p.2]⟩) (frameR_ok (p := snB i n) (by omega)))) <| .e (.move rfl) rfl rfl <| .e (.extract rfl rfl) rfl rfl <| .e (.extract rfl rfl) rfl rfl <| .e (.assign rfl) rfl rfl ?_
  refine .e (.assign rfl) rfl rfl <| .nil <| .go <| .seq <| .region <| .e (.loadW ag27 sz27 rfl (.there <| .there <| .there <| .here) rfl) rfl rfl ?_
  refine .e (.move rfl) rfl rfl <| .on rfl <| .call cal16 rfl rfl rfl (hPut_ok (hd0.mono hI16) hsm (by decide) (by unfold StrOk; rw [frameB_size]; omega) (fun f hf => by have := hsz f hf; unfold StrOk; rw [ByteArray.size_append, frameB_size]; omega) h) fun v39 I39 O39 hI39 hK39 => ?_
  obtain ⟨rfl, fv39, rfl, hf39⟩ := hK39
  obtain ⟨fw39, ew39, hw39⟩ := hf39.ex
  obtain ⟨fa39, fc39, rfl, -, -, -⟩ := hw39
  cases ew39
  have hf := hf39
  refine .e (.extract rfl rfl) rfl rfl <| .e (.extract rfl rfl) rfl rfl <| .on rfl <| .storeW sz27 rfl rfl rfl rfl rfl rfl (.there <| .here) <| .e (.assign rfl) rfl rfl <| .nil <| .go ?_
  refine .ret <| .blk_ret <| .ret ?_
  refine Post.rets rfl (.agg rfl ag27 sz27 (.there <| .here) rfl (.tmp rfl .nil)) rfl (Imm.le_trans hI16 hI39) (fun w h => (Sat.tail (Sat.tail (Sat.tail (Sat.tail h))))) ?_
  exact ⟨rfl, _, rfl, hf⟩

def StrR (_ : Imm) (cs : List Value) (s : ByteArray) : Prop := cs = [.string s] ∧ StrOk s
abbrev StrsR (I : Imm) (v : Value) (l : List ByteArray) : Prop := SlR StrR 1 I v l
theorem StrsR.mono {I J : Imm} {v : Value} {l : List ByteArray} (hI : I.le J) (h : StrsR I v l) : StrsR J v l := SlR.mono (R := StrR) (I := I) (J := J) (fun _ _ h => h) hI h
theorem name_32 {s : ByteArray} (h : isName s = true) : s.size ≤ 32 := by
  rw [isName_eq, Bool.and_eq_true, Bool.and_eq_true, decide_eq_true_eq] at h
  omega
theorem one_ints {J : Imm} {b : Nat} {T : TypeId} (h : J b = some (.cells ⟨[.int .i64 1]⟩ T (0, 0))) : IntsR J (.slice (some ⟨b, 0, none⟩) 1 1) [1] := OwnS.read (R := I64R) (xs := [1]) (OwnS.made (k := 1) (len := 1) (T := T) rfl (by decide)) (DR.single rfl ⟨rfl, (show -9223372036854775808 ≤ (1 : Int) ∧ (1 : Int) ≤ 9223372036854775807 by decide)⟩) h
theorem save_step {i k : Nat} {n s : ByteArray} {L : List Fil} (hL : StF (snO i n) L) {f : Int} (hs : s.size ≤ 1000) (hk : k ≤ 999) {D : Dsk} {e : Int} (h : putR ⟨L, false, f⟩ fS (frameB (snB (k + 1) s)) = (D, e)) :
    (e = 0 ∧ D.down = false ∧ StF (snO (k + 1) s) D.files) ∨ (e = 8 ∧ StF (snO i n) D.files) := by
  have hz := snB_size (i := k + 1) (n := s) (by omega) hs
  rcases put_law hL (by rw [frameB_size]; omega) h with ⟨h1, h2, h3⟩ | h1
  · refine .inl ⟨h1, h2, .inl ?_⟩
    rw [h3]; unfold snO; rw [if_neg (by omega)]
  · exact .inr h1

def mx (z : Int) : Int := if z < -1 then -1 else z
theorem mx_i64 {z : Int} (h : I64 z) : I64 (mx z) := by unfold mx I64 at *; split <;> omega

set_option maxHeartbeats 16000000 in
set_option maxRecDepth 20000 in
theorem TopSnaps_ok {I : Imm} {O : Own} {lv fv kv : Value} {l : List ByteArray} {fs ks : List Int} (hl : StrsR I lv l) (hfs : IntsR I fv fs) (hks : IntsR I kv ks) :
    Pure Tryd.prog 3 [lv, fv, kv] I O (.bool true) := by
  have hl0 := hl
  obtain ⟨la, lcap, rfl, hl1, hl2', -⟩ := hl
  have hfs0 := hfs
  obtain ⟨ba, bcap, rfl, hb1, hb2, -⟩ := hfs
  have hks0 := hks
  obtain ⟨ka, kcap, rfl, hks1, hks2, -⟩ := hks
  refine Go.Sy.Does.enter Tryd.func3 rfl Tryd.ntmps3 rfl ?_
  refine .seq <| .region <| .e (.assign rfl) rfl rfl <| .nil <| .go <| .seq ?_
  refine .seq <| .region <| .on rfl <| .callP cal4 rfl rfl rfl (begins_ok) <| .e (.not rfl) rfl rfl <| .nil <| .go ?_
  refine .cond_false rfl <| .skip <| .go <| .seq <| .region <| .e (.build bs27 zv27 rfl rfl) rfl rfl ?_
  refine .on rfl <| .alloc zr27 rfl fun c1 _ _ => .on rfl <| .storeW sz27 rfl rfl rfl rfl rfl rfl .here <| .nil <| .go <| .seq <| .region ?_
  refine .e (.build bs30 zv30 rfl rfl) rfl rfl <| .on rfl <| .alloc zr30 rfl fun c2 _ _ => .on rfl <| .storeW sz30 rfl rfl rfl rfl rfl rfl .here <| .nil <| .go <| .seq ?_
  refine .seq <| .region <| .e (.move rfl) rfl rfl <| .e (.len sl22 rfl rfl) rfl rfl <| .e (.move rfl) rfl rfl <| .nil ?_
  refine .go <| .block ?_
  refine .front1 (.there <| .here) ?_
  refine .loopM [6, 9, 10, 11, 12, 13, 14, 15, 22, 23, 24, 25, 26, 27, 28, 29, 30, 31, 32, 33, 34, 35, 36, 37, 38, 39, 40, 41, 42, 43, 44, 45, 46, 47, 48, 49, 50, 51, 52, 53, 54, 55, 56, 57, 58, 59, 60, 61, 62, 63, 64, 65, 66, 67, 68, 69, 70, 71, 72, 73, 74, 75, 76, 77, 78, 79, 80, 81, 82, 83, 84, 85, 86, 87, 88, 89, 90, 91, 92, 93, 94, 95, 96, 97, 98, 99, 100, 101, 102, 103, 104, 105, 106] (fun s => l.length - s.1) (fun s => s.1 ≤ l.length ∧ s.2.1 ≤ s.1 ∧ s.1 ≤ 20 ∧ s.2.1 ≤ 20 ∧ s.2.2.1.size ≤ 1000 ∧ (s.2.1 = 0 → s.2.2.1 = ⟨#[]⟩) ∧ (¬s.2.2.1 = ⟨#[]⟩ → isName s.2.2.1 = true) ∧ StF (snO s.2.1 s.2.2.1) s.2.2.2.1 ∧ (∃ ad len cap, s.2.2.2.2.2.2.1 = .slice ad len cap) ∧ I.le s.2.2.2.2.2.2.2 ∧ DskR s.2.2.2.2.2.2.2 (Dsk.cells ⟨s.2.2.2.1, false, s.2.2.2.2.1⟩ s.2.2.2.2.2.1) ⟨s.2.2.2.1, false, s.2.2.2.2.1⟩) (fun s => [(22, .int .i64 s.1)]) (fun s => s.2.2.2.2.2.2.2) (fun s => (c1, .cells ⟨Dsk.cells ⟨s.2.2.2.1, false, s.2.2.2.2.1⟩ s.2.2.2.2.2.1⟩ 27 (0, 0)) :: (c2, .cells ⟨snV s.2.2.2.2.2.2.1 s.2.1 s.2.2.1⟩ 30 (0, 0)) :: _) (((0, 0, ⟨#[]⟩, [], -1, .slice none 0 0, .slice none 0 0, I) : (Nat × Nat × ByteArray × List Fil × Int × Value × Value × Imm))) ⟨Nat.zero_le _, Nat.le_refl _, Nat.zero_le _, Nat.zero_le _, Nat.zero_le _, (fun _ => rfl), (fun h => absurd rfl h), .inl rfl, ⟨_, _, _, rfl⟩, Imm.le_refl _, dn0⟩ ⟨rfl, trivial⟩ rfl rfl ?_
  intro ⟨k, i, n, L, fu, vD, wv, J⟩ hk
  dsimp only at hk ⊢
  obtain ⟨hkl0, hik, hk20, hi20, hn1, hn0, hnm, hL, ⟨wa, wl, wc, rfl⟩, hJ, hD⟩ := hk
  have hD0 := hD
  obtain ⟨fwD, ewD, hwD⟩ := hD.ex
  obtain ⟨faD, fcD, rfl, -, -, -⟩ := hwD
  cases ewD
  refine .seq <| .region <| .e (.lss rfl rfl) rfl rfl <| .nil <| .go <| .seq ?_
  refine .split 23 rfl (fun h23 => ?_) (fun h23 => ?_)
  · skip
    replace h23 := of_decide_eq_true h23
    refine .cond_true rfl <| .skip <| .go <| .seq <| .block <| .seq ?_
    refine .region <| .e (.move rfl) rfl rfl ?_
    obtain ⟨eb25, eo25, cs25, hd25, hat25, hr25⟩ := SlR.at_ (StrsR.mono hJ hl0) (k := k) (by omega)
    cases hd25
    obtain ⟨rfl, hs25⟩ := hr25
    refine .e (.indexAddrL sl22 rfl rfl rfl (by omega)) rfl rfl <| .e (.loadI ag9 rfl (hat25.cell (j := 0) rfl)) rfl rfl <| .e (.assign rfl) rfl rfl <| .e (.assign rfl) rfl rfl <| .nil <| .go ?_
    refine .seq <| .seq <| .region <| .e (.move rfl) rfl rfl <| .e (.eql rfl rfl) rfl rfl <| .nil ?_
    refine .go ?_
    refine .split 28 rfl (fun h28 => ?_) (fun h28 => ?_)
    · skip
      replace h28 := of_decide_eq_true h28
      refine .cond_true rfl <| .exit <| .exit <| .blk_other rfl <| .exit <| .exit ?_
      refine .blk_exit <| .go <| .seq <| .region <| .e (.assign rfl) rfl rfl <| .nil ?_
      refine .go <| .ret ?_
      refine .tail <| .tail ?_
      refine .back hJ ?_
      refine Post.retE rfl rfl ?_
      rfl
    · skip
      replace h28 := of_decide_eq_false h28
      refine .cond_false rfl <| .skip <| .go <| .seq <| .seq <| .region ?_
      refine .e (.move rfl) rfl rfl <| .on rfl <| .callP cal5 rfl rfl rfl (Name_ok hs25) <| .e (.not rfl) rfl rfl <| .nil <| .go ?_
      refine .split 31 rfl (fun h31 => ?_) (fun h31 => ?_)
      · skip
        refine .cond_true rfl <| .exit <| .exit <| .blk_exit <| .go <| .region ?_
        refine .e (.add rfl rfl (by first | exact wrap_succ (by omega) | exact IntWalk.i64_in _ (by omega) | exact rfl)) rfl rfl <| .e (.move rfl) rfl rfl <| .nil ?_
        exact .mid ((k + 1, i, n, L, fu, _, _, J)) ⟨by dsimp only; omega, by dsimp only; omega, by dsimp only; omega, by dsimp only; omega, by dsimp only; omega, hn1, hn0, hnm, hL, ⟨_, _, _, rfl⟩, hJ, hD0⟩ ⟨rfl, trivial⟩ rfl rfl (.pre 16 rfl (.app rfl .base))
      · skip
        have hnk : isName l[k] = true := by simpa using h31
        have hsn : l[k].size ≤ 1000 := by have := name_32 hnk; omega
        refine .cond_false rfl <| .skip <| .go <| .seq <| .region <| .e (.move rfl) rfl rfl ?_
        refine .e ((EV.cast (.conv Tryd.underlying3 Tryd.underlying28 rfl) (congrArg (Value.int .u64) (IntWalk.u64_in ((k : Nat) : Int) (by omega))))) rfl rfl <| .e (.add rfl rfl ((IntWalk.u64_in _ (by omega)).trans (show ((k : Nat) : Int) + 1 = ((k + 1 : Nat) : Int) by omega))) rfl rfl <| .on rfl <| .buildSlice Tryd.underlying23 sz3 (by decide) (by decide) zv3 rfl rfl rfl rfl rfl fun c3 _ _ => ?_
        refine .freeze fun B hB hBb => ?_
        have hmB := one_ints hBb
        have hDB := hD0.mono hB
        refine .e (.move rfl) rfl rfl <| .e (.build bs30 zv30 rfl rfl) rfl rfl <| .on rfl <| .alloc zr30 rfl fun c4 _ _ => .on rfl <| .storeW sz30 rfl rfl rfl rfl rfl rfl .here <| .nil <| .go ?_
        refine .seq <| .region <| .e (.fieldAddr fo27_2 rfl) rfl rfl <| .on rfl <| .store sz3 rfl rfl rfl rfl rfl rfl (.there <| .here) <| .nil <| .go ?_
        refine .seq <| .seq <| .region <| .e (.move rfl) rfl rfl <| .e (.move rfl) rfl rfl <| .e (.len sl23 rfl rfl) rfl rfl ?_
        refine .e (.lss rfl rfl) rfl rfl <| .nil <| .go ?_
        refine .split 42 rfl (fun h42 => ?_) (fun h42 => ?_)
        · skip
          replace h42 := of_decide_eq_true h42
          refine .cond_true rfl <| .region <| .e (.move rfl) rfl rfl <| .e (.move rfl) rfl rfl ?_
          obtain ⟨eb45, eo45, cs45, hd45, hat45, hr45⟩ := SlR.at_ (IntsR.mono (Imm.le_trans hJ hB) hfs0) (k := k) (by omega)
          cases hd45
          obtain ⟨rfl, hz45⟩ := hr45
          obtain ⟨z, hz⟩ : ∃ z, fs[k] = z := ⟨_, rfl⟩
          rw [hz] at hz45
          refine .e (.indexAddrL sl23 rfl rfl rfl (by omega)) rfl rfl <| .e (.loadI ag3 rfl (hat45.cell (j := 0) rfl)) rfl rfl <| .e ((EV.cast (u := .int .i64 (mx z)) (.max2 rfl rfl rfl) (by rw [hz]; rfl))) rfl rfl <| .e (.fieldAddr fo27_2 rfl) rfl rfl <| .on rfl <| .store sz3 rfl rfl rfl rfl rfl rfl (.there <| .here) <| .nil ?_
          refine .go <| .seq <| .region ?_
          obtain ⟨f, hfe⟩ : ∃ f : Int, (mx z) = f := ⟨_, rfl⟩
          have hf64 : I64 f := by rw [← hfe]; exact mx_i64 hz45
          have hd50 : DskR B (Dsk.cells ⟨L, false, f⟩ (.slice faD L.length fcD)) ⟨L, false, f⟩ := ⟨by obtain ⟨v9, e9, h9⟩ := hDB.ex; cases e9; exact ⟨_, rfl, h9⟩, hf64⟩
          obtain ⟨D1, e1, hput⟩ : ∃ D e, putR ⟨L, false, f⟩ fS (frameB (snB (k + 1) l[k])) = (D, e) := ⟨_, _, rfl⟩
          have hsv := save_step hL hsn (by omega) hput
          rw [hfe]
          refine .e (.loadW ag27 sz27 rfl (.there <| .here) rfl) rfl rfl <| .e (.loadW ag30 sz30 rfl .here rfl) rfl rfl <| .on rfl <| .call cal6 rfl rfl rfl (snSave_ok hd50 (by have := hL.few; dsimp only; omega) hmB (Nat.succ_pos k) (by omega) hsn (read_ok hL (by omega) hn1 hn0) (by omega) (hL.room (snO_room (by omega) hn1)) hput) fun v52 I52 O52 hI52 hK52 => ?_
          obtain ⟨rfl, fv52, rfl, hf52⟩ := hK52
          obtain ⟨fw52, ew52, hw52⟩ := hf52.ex
          obtain ⟨fa52, fc52, rfl, -, -, -⟩ := hw52
          cases ew52
          have hf := hf52
          refine .e (.move rfl) rfl rfl <| .e (.extract rfl rfl) rfl rfl <| .e (.extract rfl rfl) rfl rfl <| .on rfl <| .alloc zr27 rfl fun c5 _ _ => .on rfl <| .storeW sz27 rfl rfl rfl rfl rfl rfl .here <| .e (.assign rfl) rfl rfl ?_
          refine .nil <| .go <| .seq <| .seq <| .region <| .e (.move rfl) rfl rfl ?_
          refine .e (.eql rfl rfl) rfl rfl <| .nil <| .go ?_
          refine .split 56 rfl (fun h56 => ?_) (fun h56 => ?_)
          · skip
            replace h56 := of_decide_eq_true h56
            refine .cond_true rfl <| .region ?_
            obtain ⟨e0, -, -⟩ | ⟨e8, hst8⟩ := hsv
            · omega
            subst e8
            obtain ⟨l2, hl2, hcr⟩ := crash_law hst8 (ks := ks)
            refine .e (.loadW ag27 sz27 rfl .here rfl) rfl rfl <| .e (.move rfl) rfl rfl <| .on rfl <| .call cal7 rfl rfl rfl (dCrashF hf52 (by have := hst8.few; omega) (IntsR.mono (Imm.le_trans (Imm.le_trans hJ hB) hI52) hks0) hcr) fun v60 I60 O60 hI60 hK60 => ?_
            obtain ⟨rfl, fv60, rfl, hf60⟩ := hK60
            obtain ⟨fw60, ew60, hw60⟩ := hf60.ex
            obtain ⟨fa60, fc60, rfl, -, -, -⟩ := hw60
            cases ew60
            have hf := hf60
            refine .e (.move rfl) rfl rfl <| .e (.extract rfl rfl) rfl rfl <| .e (.extract rfl rfl) rfl rfl <| .on rfl <| .storeW sz27 rfl rfl rfl rfl rfl rfl .here <| .nil <| .go ?_
            refine .seq <| .region <| .e (.loadW ag27 sz27 rfl .here rfl) rfl rfl <| .on rfl <| .call cal8 rfl rfl rfl (snLoad_ok hf60 (read_ok hl2 (by omega) hn1 hn0)) fun v65 I65 O65 hI65 hK65 => ?_
            obtain ⟨la65, ll65, lc65, rfl, rfl⟩ := hK65
            refine .e (.move rfl) rfl rfl <| .e (.extract rfl rfl) rfl rfl <| .e (.extract rfl rfl) rfl rfl <| .on rfl <| .alloc zr30 rfl fun c6 _ _ => .on rfl <| .storeW sz30 rfl rfl rfl rfl rfl rfl .here <| .e (.assign rfl) rfl rfl ?_
            refine .nil <| .go <| .seq <| .seq <| .region <| .e (.move rfl) rfl rfl ?_
            refine .e (.neq rfl rfl) rfl rfl <| .e (.move rfl) rfl rfl <| .e (.move rfl) rfl rfl <| .e (.neq rfl rfl) rfl rfl <| .e (.move rfl) rfl rfl <| .e (.move rfl) rfl rfl ?_
            refine .e (.neq rfl rfl) rfl rfl <| .e (.pickT rfl rfl) rfl rfl <| .e (.pickF rfl rfl) rfl rfl <| .nil <| .go <| .cond_false rfl ?_
            refine .skip <| .go <| .seq <| .seq <| .region <| .e (.fieldAddr fo30_3 rfl) rfl rfl ?_
            refine .e (.load ag9 rfl .here rfl) rfl rfl <| .e (.move rfl) rfl rfl <| .e (.strne rfl rfl) rfl rfl <| .e (.move rfl) rfl rfl ?_
            refine .split 82 rfl (fun h82 => ?_) (fun h82 => ?_)
            · skip
              first | replace h82 := of_decide_eq_false ((Bool.not_eq_true' _).mp h82) | replace h82 := of_decide_eq_false (by simpa using h82)
              refine .e (.move rfl) rfl rfl <| .e (.eql rfl rfl) rfl rfl <| .e (.move rfl) rfl rfl <| .e (.fieldAddr fo30_3 rfl) rfl rfl <| .e (.load ag9 rfl .here rfl) rfl rfl <| .e (.fieldAddr fo30_3 rfl) rfl rfl ?_
              refine .e (.load ag9 rfl (.there <| .there <| .there <| .there <| .here) rfl) rfl rfl <| .e ((EV.cast (u := .bool false) (.strne rfl rfl) (congrArg Value.bool (by simp)))) rfl rfl <| .e (.pickF rfl rfl) rfl rfl <| .e (.pickT rfl rfl) rfl rfl <| .e (.move rfl) rfl rfl <| .e (.fieldAddr fo30_3 rfl) rfl rfl ?_
              refine .e (.load ag9 rfl .here rfl) rfl rfl <| .e (.strne rfl rfl) rfl rfl <| .e (.move rfl) rfl rfl ?_
              refine .split 97 rfl (fun h97 => ?_) (fun h97 => ?_)
              · skip
                first | replace h97 := of_decide_eq_false ((Bool.not_eq_true' _).mp h97) | replace h97 := of_decide_eq_false (by simpa using h97)
                refine .e (.fieldAddr fo30_3 rfl) rfl rfl <| .e (.load ag9 rfl .here rfl) rfl rfl <| .on rfl <| .callP cal5 rfl rfl rfl ((Name_ok (s := n) (by unfold StrOk; omega)).castT (hnm h97)) <| .e (.not rfl) rfl rfl <| .e (.pickT rfl rfl) rfl rfl <| .e (.pickF rfl rfl) rfl rfl ?_
                refine .nil <| .go <| .cond_false rfl <| .skip <| .go ?_
                refine .draw [(c5, _), (c6, _)] mixed (.cons (.there <| .here) (.cons .here .nil)) ?_
                refine .t 0 rfl (.loadW ag27 sz27 rfl .here rfl) rfl rfl (by kernel_rfl) <| .t 1 rfl (.loadW ag30 sz30 rfl (.there <| .here) rfl) rfl rfl (by kernel_rfl) <| .one (i := 2) (by kernel_rfl) rfl rfl <| .storeW sz27 rfl rfl rfl rfl rfl rfl (.there <| .there <| .there <| .here) ?_
                refine ⟨(.cons (.there <| .here) (.cons .here .nil)), Imm.le_refl _, ?_⟩
                refine .late (i := 3) (by kernel_rfl) (by kernel_rfl) (by kernel_rfl) rfl rfl <| .storeW sz30 rfl rfl rfl rfl rfl rfl (.there <| .there <| .there <| .there <| .here) <| .blk_normal <| .go <| .region <| .e (.add rfl rfl (by first | exact wrap_succ (by omega) | exact IntWalk.i64_in _ (by omega) | exact rfl)) rfl rfl <| .e (.move rfl) rfl rfl ?_
                refine .nil ?_
                refine .tail ?_
                refine .tail ?_
                refine .tail ?_
                exact .mid ((k + 1, i, n, l2, -1, _, _, I65)) ⟨by dsimp only; omega, by dsimp only; omega, by dsimp only; omega, by dsimp only; omega, by dsimp only; omega, hn1, hn0, hnm, hl2, ⟨_, _, _, rfl⟩, (Imm.le_trans (Imm.le_trans (Imm.le_trans (Imm.le_trans hJ hB) hI52) hI60) hI65), DskR.mono hI65 hf60⟩ ⟨rfl, trivial⟩ rfl rfl (.pre 99 rfl (.app rfl .base))
              · skip
                first | replace h97 := of_decide_eq_true ((Bool.not_eq_false' _).mp h97) | replace h97 := of_decide_eq_true (by simpa using h97)
                refine .off rfl rfl <| .off rfl rfl <| .off rfl rfl <| .off rfl rfl <| .e (.pickF rfl rfl) rfl rfl <| .e (.pickF rfl rfl) rfl rfl ?_
                refine .nil <| .go <| .cond_false rfl <| .skip <| .go ?_
                refine .draw [(c5, _), (c6, _)] mixed (.cons (.there <| .here) (.cons .here .nil)) ?_
                refine .t 0 rfl (.loadW ag27 sz27 rfl .here rfl) rfl rfl (by kernel_rfl) <| .t 1 rfl (.loadW ag30 sz30 rfl (.there <| .here) rfl) rfl rfl (by kernel_rfl) <| .one (i := 2) (by kernel_rfl) rfl rfl <| .storeW sz27 rfl rfl rfl rfl rfl rfl (.there <| .there <| .there <| .here) ?_
                refine ⟨(.cons (.there <| .here) (.cons .here .nil)), Imm.le_refl _, ?_⟩
                refine .late (i := 3) (by kernel_rfl) (by kernel_rfl) (by kernel_rfl) rfl rfl <| .storeW sz30 rfl rfl rfl rfl rfl rfl (.there <| .there <| .there <| .there <| .here) <| .blk_normal <| .go <| .region <| .e (.add rfl rfl (by first | exact wrap_succ (by omega) | exact IntWalk.i64_in _ (by omega) | exact rfl)) rfl rfl <| .e (.move rfl) rfl rfl ?_
                refine .nil ?_
                refine .tail ?_
                refine .tail ?_
                refine .tail ?_
                exact .mid ((k + 1, i, n, l2, -1, _, _, I65)) ⟨by dsimp only; omega, by dsimp only; omega, by dsimp only; omega, by dsimp only; omega, by dsimp only; omega, hn1, hn0, hnm, hl2, ⟨_, _, _, rfl⟩, (Imm.le_trans (Imm.le_trans (Imm.le_trans (Imm.le_trans hJ hB) hI52) hI60) hI65), DskR.mono hI65 hf60⟩ ⟨rfl, trivial⟩ rfl rfl (.pre 99 rfl (.app rfl .base))
            · skip
              first | replace h82 := of_decide_eq_true ((Bool.not_eq_false' _).mp h82) | replace h82 := of_decide_eq_true (by simpa using h82)
              refine .off rfl rfl <| .off rfl rfl <| .off rfl rfl <| .off rfl rfl <| .off rfl rfl <| .off rfl rfl ?_
              refine .off rfl rfl <| .off rfl rfl <| .off rfl rfl <| .e (.pickF rfl rfl) rfl rfl <| .e (.move rfl) rfl rfl <| .e (.fieldAddr fo30_3 rfl) rfl rfl ?_
              refine .e (.load ag9 rfl .here rfl) rfl rfl <| .e (.strne rfl rfl) rfl rfl <| .e (.move rfl) rfl rfl ?_
              refine .split 97 rfl (fun h97 => ?_) (fun h97 => ?_)
              · skip
                first | replace h97 := of_decide_eq_false ((Bool.not_eq_true' _).mp h97) | replace h97 := of_decide_eq_false (by simpa using h97)
                refine .e (.fieldAddr fo30_3 rfl) rfl rfl <| .e (.load ag9 rfl .here rfl) rfl rfl <| .on rfl <| .callP cal5 rfl rfl rfl ((Name_ok (s := n) (by unfold StrOk; omega)).castT (hnm h97)) <| .e (.not rfl) rfl rfl <| .e (.pickT rfl rfl) rfl rfl <| .e (.pickF rfl rfl) rfl rfl ?_
                refine .nil <| .go <| .cond_false rfl <| .skip <| .go ?_
                refine .draw [(c5, _), (c6, _)] mixed (.cons (.there <| .here) (.cons .here .nil)) ?_
                refine .t 0 rfl (.loadW ag27 sz27 rfl .here rfl) rfl rfl (by kernel_rfl) <| .t 1 rfl (.loadW ag30 sz30 rfl (.there <| .here) rfl) rfl rfl (by kernel_rfl) <| .one (i := 2) (by kernel_rfl) rfl rfl <| .storeW sz27 rfl rfl rfl rfl rfl rfl (.there <| .there <| .there <| .here) ?_
                refine ⟨(.cons (.there <| .here) (.cons .here .nil)), Imm.le_refl _, ?_⟩
                refine .late (i := 3) (by kernel_rfl) (by kernel_rfl) (by kernel_rfl) rfl rfl <| .storeW sz30 rfl rfl rfl rfl rfl rfl (.there <| .there <| .there <| .there <| .here) <| .blk_normal <| .go <| .region <| .e (.add rfl rfl (by first | exact wrap_succ (by omega) | exact IntWalk.i64_in _ (by omega) | exact rfl)) rfl rfl <| .e (.move rfl) rfl rfl ?_
                refine .nil ?_
                refine .tail ?_
                refine .tail ?_
                refine .tail ?_
                exact .mid ((k + 1, i, n, l2, -1, _, _, I65)) ⟨by dsimp only; omega, by dsimp only; omega, by dsimp only; omega, by dsimp only; omega, by dsimp only; omega, hn1, hn0, hnm, hl2, ⟨_, _, _, rfl⟩, (Imm.le_trans (Imm.le_trans (Imm.le_trans (Imm.le_trans hJ hB) hI52) hI60) hI65), DskR.mono hI65 hf60⟩ ⟨rfl, trivial⟩ rfl rfl (.pre 99 rfl (.app rfl .base))
              · skip
                first | replace h97 := of_decide_eq_true ((Bool.not_eq_false' _).mp h97) | replace h97 := of_decide_eq_true (by simpa using h97)
                refine .off rfl rfl <| .off rfl rfl <| .off rfl rfl <| .off rfl rfl <| .e (.pickF rfl rfl) rfl rfl <| .e (.pickF rfl rfl) rfl rfl ?_
                refine .nil <| .go <| .cond_false rfl <| .skip <| .go ?_
                refine .draw [(c5, _), (c6, _)] mixed (.cons (.there <| .here) (.cons .here .nil)) ?_
                refine .t 0 rfl (.loadW ag27 sz27 rfl .here rfl) rfl rfl (by kernel_rfl) <| .t 1 rfl (.loadW ag30 sz30 rfl (.there <| .here) rfl) rfl rfl (by kernel_rfl) <| .one (i := 2) (by kernel_rfl) rfl rfl <| .storeW sz27 rfl rfl rfl rfl rfl rfl (.there <| .there <| .there <| .here) ?_
                refine ⟨(.cons (.there <| .here) (.cons .here .nil)), Imm.le_refl _, ?_⟩
                refine .late (i := 3) (by kernel_rfl) (by kernel_rfl) (by kernel_rfl) rfl rfl <| .storeW sz30 rfl rfl rfl rfl rfl rfl (.there <| .there <| .there <| .there <| .here) <| .blk_normal <| .go <| .region <| .e (.add rfl rfl (by first | exact wrap_succ (by omega) | exact IntWalk.i64_in _ (by omega) | exact rfl)) rfl rfl <| .e (.move rfl) rfl rfl ?_
                refine .nil ?_
                refine .tail ?_
                refine .tail ?_
                refine .tail ?_
                exact .mid ((k + 1, i, n, l2, -1, _, _, I65)) ⟨by dsimp only; omega, by dsimp only; omega, by dsimp only; omega, by dsimp only; omega, by dsimp only; omega, hn1, hn0, hnm, hl2, ⟨_, _, _, rfl⟩, (Imm.le_trans (Imm.le_trans (Imm.le_trans (Imm.le_trans hJ hB) hI52) hI60) hI65), DskR.mono hI65 hf60⟩ ⟨rfl, trivial⟩ rfl rfl (.pre 99 rfl (.app rfl .base))
          · skip
            replace h56 := of_decide_eq_false h56
            refine .cond_false rfl <| .skip <| .go <| .seq <| .region ?_
            obtain ⟨e0, hdn, hst⟩ | ⟨e8, -⟩ := hsv
            rotate_left
            · exact absurd e8 h56
            subst e0
            obtain ⟨L1, b1, f1⟩ := D1
            dsimp only at hdn hst
            subst hdn
            refine .e (.loadW ag27 sz27 rfl .here rfl) rfl rfl <| .on rfl <| .call cal8 rfl rfl rfl (snLoad_ok hf52 (read_ok hst (by omega) hsn (fun h => absurd h (Nat.succ_ne_zero k)))) fun v65 I65 O65 hI65 hK65 => ?_
            obtain ⟨la65, ll65, lc65, rfl, rfl⟩ := hK65
            refine .e (.move rfl) rfl rfl <| .e (.extract rfl rfl) rfl rfl <| .e (.extract rfl rfl) rfl rfl <| .on rfl <| .alloc zr30 rfl fun c7 _ _ => .on rfl <| .storeW sz30 rfl rfl rfl rfl rfl rfl .here <| .e (.assign rfl) rfl rfl ?_
            refine .nil <| .go <| .seq <| .seq <| .region <| .e (.move rfl) rfl rfl ?_
            refine .e (.neq rfl rfl) rfl rfl <| .e (.move rfl) rfl rfl <| .e (.move rfl) rfl rfl <| .e (.neq rfl rfl) rfl rfl <| .e (.move rfl) rfl rfl <| .off rfl rfl ?_
            refine .off rfl rfl <| .e (.pickF rfl rfl) rfl rfl <| .e (.pickF rfl rfl) rfl rfl <| .nil <| .go <| .cond_false rfl ?_
            refine .skip <| .go <| .seq <| .seq <| .region <| .e (.fieldAddr fo30_3 rfl) rfl rfl ?_
            refine .e (.load ag9 rfl .here rfl) rfl rfl <| .e (.move rfl) rfl rfl <| .e ((EV.cast (u := .bool false) (.strne rfl rfl) (congrArg Value.bool (by simp)))) rfl rfl <| .e (.move rfl) rfl rfl <| .off rfl rfl <| .off rfl rfl ?_
            refine .off rfl rfl <| .off rfl rfl <| .off rfl rfl <| .off rfl rfl <| .off rfl rfl <| .off rfl rfl ?_
            refine .off rfl rfl <| .e (.pickF rfl rfl) rfl rfl <| .e (.move rfl) rfl rfl <| .e (.fieldAddr fo30_3 rfl) rfl rfl <| .e (.load ag9 rfl .here rfl) rfl rfl <| .e (.strne rfl rfl) rfl rfl ?_
            refine .e (.move rfl) rfl rfl ?_
            refine .split 97 rfl (fun h97 => ?_) (fun h97 => ?_)
            · skip
              first | replace h97 := of_decide_eq_false ((Bool.not_eq_true' _).mp h97) | replace h97 := of_decide_eq_false (by simpa using h97)
              refine .e (.fieldAddr fo30_3 rfl) rfl rfl <| .e (.load ag9 rfl .here rfl) rfl rfl <| .on rfl <| .callP cal5 rfl rfl rfl ((Name_ok (s := l[k]) hs25).castT hnk) <| .e (.not rfl) rfl rfl <| .e (.pickT rfl rfl) rfl rfl <| .e (.pickF rfl rfl) rfl rfl ?_
              refine .nil <| .go <| .cond_false rfl <| .skip <| .go ?_
              refine .draw [(c5, _), (c7, _)] mixed (.cons (.there <| .here) (.cons .here .nil)) ?_
              refine .t 0 rfl (.loadW ag27 sz27 rfl .here rfl) rfl rfl (by kernel_rfl) <| .t 1 rfl (.loadW ag30 sz30 rfl (.there <| .here) rfl) rfl rfl (by kernel_rfl) <| .one (i := 2) (by kernel_rfl) rfl rfl <| .storeW sz27 rfl rfl rfl rfl rfl rfl (.there <| .there <| .there <| .here) ?_
              refine ⟨(.cons (.there <| .here) (.cons .here .nil)), Imm.le_refl _, ?_⟩
              refine .late (i := 3) (by kernel_rfl) (by kernel_rfl) (by kernel_rfl) rfl rfl <| .storeW sz30 rfl rfl rfl rfl rfl rfl (.there <| .there <| .there <| .there <| .here) <| .blk_normal <| .go <| .region <| .e (.add rfl rfl (by first | exact wrap_succ (by omega) | exact IntWalk.i64_in _ (by omega) | exact rfl)) rfl rfl <| .e (.move rfl) rfl rfl ?_
              refine .nil ?_
              refine .tail ?_
              refine .tail ?_
              refine .tail ?_
              exact .mid ((k + 1, k + 1, l[k], L1, f1, _, _, I65)) ⟨by dsimp only; omega, by dsimp only; omega, by dsimp only; omega, by dsimp only; omega, by dsimp only; omega, hsn, (fun h => absurd h (Nat.succ_ne_zero k)), (fun _ => hnk), hst, ⟨_, _, _, rfl⟩, (Imm.le_trans (Imm.le_trans (Imm.le_trans hJ hB) hI52) hI65), DskR.mono hI65 hf52⟩ ⟨rfl, trivial⟩ rfl rfl (.pre 92 rfl (.app rfl .base))
            · skip
              first | replace h97 := of_decide_eq_true ((Bool.not_eq_false' _).mp h97) | replace h97 := of_decide_eq_true (by simpa using h97)
              refine .off rfl rfl <| .off rfl rfl <| .off rfl rfl <| .off rfl rfl <| .e (.pickF rfl rfl) rfl rfl <| .e (.pickF rfl rfl) rfl rfl ?_
              refine .nil <| .go <| .cond_false rfl <| .skip <| .go ?_
              refine .draw [(c5, _), (c7, _)] mixed (.cons (.there <| .here) (.cons .here .nil)) ?_
              refine .t 0 rfl (.loadW ag27 sz27 rfl .here rfl) rfl rfl (by kernel_rfl) <| .t 1 rfl (.loadW ag30 sz30 rfl (.there <| .here) rfl) rfl rfl (by kernel_rfl) <| .one (i := 2) (by kernel_rfl) rfl rfl <| .storeW sz27 rfl rfl rfl rfl rfl rfl (.there <| .there <| .there <| .here) ?_
              refine ⟨(.cons (.there <| .here) (.cons .here .nil)), Imm.le_refl _, ?_⟩
              refine .late (i := 3) (by kernel_rfl) (by kernel_rfl) (by kernel_rfl) rfl rfl <| .storeW sz30 rfl rfl rfl rfl rfl rfl (.there <| .there <| .there <| .there <| .here) <| .blk_normal <| .go <| .region <| .e (.add rfl rfl (by first | exact wrap_succ (by omega) | exact IntWalk.i64_in _ (by omega) | exact rfl)) rfl rfl <| .e (.move rfl) rfl rfl ?_
              refine .nil ?_
              refine .tail ?_
              refine .tail ?_
              refine .tail ?_
              exact .mid ((k + 1, k + 1, l[k], L1, f1, _, _, I65)) ⟨by dsimp only; omega, by dsimp only; omega, by dsimp only; omega, by dsimp only; omega, by dsimp only; omega, hsn, (fun h => absurd h (Nat.succ_ne_zero k)), (fun _ => hnk), hst, ⟨_, _, _, rfl⟩, (Imm.le_trans (Imm.le_trans (Imm.le_trans hJ hB) hI52) hI65), DskR.mono hI65 hf52⟩ ⟨rfl, trivial⟩ rfl rfl (.pre 92 rfl (.app rfl .base))
        · skip
          replace h42 := of_decide_eq_false h42
          refine .cond_false rfl <| .skip <| .go <| .seq <| .region ?_
          obtain ⟨f, hfe⟩ : ∃ f : Int, -1 = f := ⟨_, rfl⟩
          have hf64 : I64 f := by rw [← hfe]; unfold I64; decide
          have hd50 : DskR B (Dsk.cells ⟨L, false, f⟩ (.slice faD L.length fcD)) ⟨L, false, f⟩ := ⟨by obtain ⟨v9, e9, h9⟩ := hDB.ex; cases e9; exact ⟨_, rfl, h9⟩, hf64⟩
          obtain ⟨D1, e1, hput⟩ : ∃ D e, putR ⟨L, false, f⟩ fS (frameB (snB (k + 1) l[k])) = (D, e) := ⟨_, _, rfl⟩
          have hsv := save_step hL hsn (by omega) hput
          subst hfe
          refine .e (.loadW ag27 sz27 rfl (.there <| .here) rfl) rfl rfl <| .e (.loadW ag30 sz30 rfl .here rfl) rfl rfl <| .on rfl <| .call cal6 rfl rfl rfl (snSave_ok hd50 (by have := hL.few; dsimp only; omega) hmB (Nat.succ_pos k) (by omega) hsn (read_ok hL (by omega) hn1 hn0) (by omega) (hL.room (snO_room (by omega) hn1)) hput) fun v52 I52 O52 hI52 hK52 => ?_
          obtain ⟨rfl, fv52, rfl, hf52⟩ := hK52
          obtain ⟨fw52, ew52, hw52⟩ := hf52.ex
          obtain ⟨fa52, fc52, rfl, -, -, -⟩ := hw52
          cases ew52
          have hf := hf52
          refine .e (.move rfl) rfl rfl <| .e (.extract rfl rfl) rfl rfl <| .e (.extract rfl rfl) rfl rfl <| .on rfl <| .alloc zr27 rfl fun c8 _ _ => .on rfl <| .storeW sz27 rfl rfl rfl rfl rfl rfl .here <| .e (.assign rfl) rfl rfl ?_
          refine .nil <| .go <| .seq <| .seq <| .region <| .e (.move rfl) rfl rfl ?_
          refine .e (.eql rfl rfl) rfl rfl <| .nil <| .go ?_
          refine .split 56 rfl (fun h56 => ?_) (fun h56 => ?_)
          · skip
            replace h56 := of_decide_eq_true h56
            refine .cond_true rfl <| .region ?_
            obtain ⟨e0, -, -⟩ | ⟨e8, hst8⟩ := hsv
            · omega
            subst e8
            obtain ⟨l2, hl2, hcr⟩ := crash_law hst8 (ks := ks)
            refine .e (.loadW ag27 sz27 rfl .here rfl) rfl rfl <| .e (.move rfl) rfl rfl <| .on rfl <| .call cal7 rfl rfl rfl (dCrashF hf52 (by have := hst8.few; omega) (IntsR.mono (Imm.le_trans (Imm.le_trans hJ hB) hI52) hks0) hcr) fun v60 I60 O60 hI60 hK60 => ?_
            obtain ⟨rfl, fv60, rfl, hf60⟩ := hK60
            obtain ⟨fw60, ew60, hw60⟩ := hf60.ex
            obtain ⟨fa60, fc60, rfl, -, -, -⟩ := hw60
            cases ew60
            have hf := hf60
            refine .e (.move rfl) rfl rfl <| .e (.extract rfl rfl) rfl rfl <| .e (.extract rfl rfl) rfl rfl <| .on rfl <| .storeW sz27 rfl rfl rfl rfl rfl rfl .here <| .nil <| .go ?_
            refine .seq <| .region <| .e (.loadW ag27 sz27 rfl .here rfl) rfl rfl <| .on rfl <| .call cal8 rfl rfl rfl (snLoad_ok hf60 (read_ok hl2 (by omega) hn1 hn0)) fun v65 I65 O65 hI65 hK65 => ?_
            obtain ⟨la65, ll65, lc65, rfl, rfl⟩ := hK65
            refine .e (.move rfl) rfl rfl <| .e (.extract rfl rfl) rfl rfl <| .e (.extract rfl rfl) rfl rfl <| .on rfl <| .alloc zr30 rfl fun c9 _ _ => .on rfl <| .storeW sz30 rfl rfl rfl rfl rfl rfl .here <| .e (.assign rfl) rfl rfl ?_
            refine .nil <| .go <| .seq <| .seq <| .region <| .e (.move rfl) rfl rfl ?_
            refine .e (.neq rfl rfl) rfl rfl <| .e (.move rfl) rfl rfl <| .e (.move rfl) rfl rfl <| .e (.neq rfl rfl) rfl rfl <| .e (.move rfl) rfl rfl <| .e (.move rfl) rfl rfl ?_
            refine .e (.neq rfl rfl) rfl rfl <| .e (.pickT rfl rfl) rfl rfl <| .e (.pickF rfl rfl) rfl rfl <| .nil <| .go <| .cond_false rfl ?_
            refine .skip <| .go <| .seq <| .seq <| .region <| .e (.fieldAddr fo30_3 rfl) rfl rfl ?_
            refine .e (.load ag9 rfl .here rfl) rfl rfl <| .e (.move rfl) rfl rfl <| .e (.strne rfl rfl) rfl rfl <| .e (.move rfl) rfl rfl ?_
            refine .split 82 rfl (fun h82 => ?_) (fun h82 => ?_)
            · skip
              first | replace h82 := of_decide_eq_false ((Bool.not_eq_true' _).mp h82) | replace h82 := of_decide_eq_false (by simpa using h82)
              refine .e (.move rfl) rfl rfl <| .e (.eql rfl rfl) rfl rfl <| .e (.move rfl) rfl rfl <| .e (.fieldAddr fo30_3 rfl) rfl rfl <| .e (.load ag9 rfl .here rfl) rfl rfl <| .e (.fieldAddr fo30_3 rfl) rfl rfl ?_
              refine .e (.load ag9 rfl (.there <| .there <| .there <| .there <| .here) rfl) rfl rfl <| .e ((EV.cast (u := .bool false) (.strne rfl rfl) (congrArg Value.bool (by simp)))) rfl rfl <| .e (.pickF rfl rfl) rfl rfl <| .e (.pickT rfl rfl) rfl rfl <| .e (.move rfl) rfl rfl <| .e (.fieldAddr fo30_3 rfl) rfl rfl ?_
              refine .e (.load ag9 rfl .here rfl) rfl rfl <| .e (.strne rfl rfl) rfl rfl <| .e (.move rfl) rfl rfl ?_
              refine .split 97 rfl (fun h97 => ?_) (fun h97 => ?_)
              · skip
                first | replace h97 := of_decide_eq_false ((Bool.not_eq_true' _).mp h97) | replace h97 := of_decide_eq_false (by simpa using h97)
                refine .e (.fieldAddr fo30_3 rfl) rfl rfl <| .e (.load ag9 rfl .here rfl) rfl rfl <| .on rfl <| .callP cal5 rfl rfl rfl ((Name_ok (s := n) (by unfold StrOk; omega)).castT (hnm h97)) <| .e (.not rfl) rfl rfl <| .e (.pickT rfl rfl) rfl rfl <| .e (.pickF rfl rfl) rfl rfl ?_
                refine .nil <| .go <| .cond_false rfl <| .skip <| .go ?_
                refine .draw [(c8, _), (c9, _)] mixed (.cons (.there <| .here) (.cons .here .nil)) ?_
                refine .t 0 rfl (.loadW ag27 sz27 rfl .here rfl) rfl rfl (by kernel_rfl) <| .t 1 rfl (.loadW ag30 sz30 rfl (.there <| .here) rfl) rfl rfl (by kernel_rfl) <| .one (i := 2) (by kernel_rfl) rfl rfl <| .storeW sz27 rfl rfl rfl rfl rfl rfl (.there <| .there <| .there <| .here) ?_
                refine ⟨(.cons (.there <| .here) (.cons .here .nil)), Imm.le_refl _, ?_⟩
                refine .late (i := 3) (by kernel_rfl) (by kernel_rfl) (by kernel_rfl) rfl rfl <| .storeW sz30 rfl rfl rfl rfl rfl rfl (.there <| .there <| .there <| .there <| .here) <| .blk_normal <| .go <| .region <| .e (.add rfl rfl (by first | exact wrap_succ (by omega) | exact IntWalk.i64_in _ (by omega) | exact rfl)) rfl rfl <| .e (.move rfl) rfl rfl ?_
                refine .nil ?_
                refine .tail ?_
                refine .tail ?_
                refine .tail ?_
                exact .mid ((k + 1, i, n, l2, -1, _, _, I65)) ⟨by dsimp only; omega, by dsimp only; omega, by dsimp only; omega, by dsimp only; omega, by dsimp only; omega, hn1, hn0, hnm, hl2, ⟨_, _, _, rfl⟩, (Imm.le_trans (Imm.le_trans (Imm.le_trans (Imm.le_trans hJ hB) hI52) hI60) hI65), DskR.mono hI65 hf60⟩ ⟨rfl, trivial⟩ rfl rfl (.pre 93 rfl (.app rfl .base))
              · skip
                first | replace h97 := of_decide_eq_true ((Bool.not_eq_false' _).mp h97) | replace h97 := of_decide_eq_true (by simpa using h97)
                refine .off rfl rfl <| .off rfl rfl <| .off rfl rfl <| .off rfl rfl <| .e (.pickF rfl rfl) rfl rfl <| .e (.pickF rfl rfl) rfl rfl ?_
                refine .nil <| .go <| .cond_false rfl <| .skip <| .go ?_
                refine .draw [(c8, _), (c9, _)] mixed (.cons (.there <| .here) (.cons .here .nil)) ?_
                refine .t 0 rfl (.loadW ag27 sz27 rfl .here rfl) rfl rfl (by kernel_rfl) <| .t 1 rfl (.loadW ag30 sz30 rfl (.there <| .here) rfl) rfl rfl (by kernel_rfl) <| .one (i := 2) (by kernel_rfl) rfl rfl <| .storeW sz27 rfl rfl rfl rfl rfl rfl (.there <| .there <| .there <| .here) ?_
                refine ⟨(.cons (.there <| .here) (.cons .here .nil)), Imm.le_refl _, ?_⟩
                refine .late (i := 3) (by kernel_rfl) (by kernel_rfl) (by kernel_rfl) rfl rfl <| .storeW sz30 rfl rfl rfl rfl rfl rfl (.there <| .there <| .there <| .there <| .here) <| .blk_normal <| .go <| .region <| .e (.add rfl rfl (by first | exact wrap_succ (by omega) | exact IntWalk.i64_in _ (by omega) | exact rfl)) rfl rfl <| .e (.move rfl) rfl rfl ?_
                refine .nil ?_
                refine .tail ?_
                refine .tail ?_
                refine .tail ?_
                exact .mid ((k + 1, i, n, l2, -1, _, _, I65)) ⟨by dsimp only; omega, by dsimp only; omega, by dsimp only; omega, by dsimp only; omega, by dsimp only; omega, hn1, hn0, hnm, hl2, ⟨_, _, _, rfl⟩, (Imm.le_trans (Imm.le_trans (Imm.le_trans (Imm.le_trans hJ hB) hI52) hI60) hI65), DskR.mono hI65 hf60⟩ ⟨rfl, trivial⟩ rfl rfl (.pre 93 rfl (.app rfl .base))
            · skip
              first | replace h82 := of_decide_eq_true ((Bool.not_eq_false' _).mp h82) | replace h82 := of_decide_eq_true (by simpa using h82)
              refine .off rfl rfl <| .off rfl rfl <| .off rfl rfl <| .off rfl rfl <| .off rfl rfl <| .off rfl rfl ?_
              refine .off rfl rfl <| .off rfl rfl <| .off rfl rfl <| .e (.pickF rfl rfl) rfl rfl <| .e (.move rfl) rfl rfl <| .e (.fieldAddr fo30_3 rfl) rfl rfl ?_
              refine .e (.load ag9 rfl .here rfl) rfl rfl <| .e (.strne rfl rfl) rfl rfl <| .e (.move rfl) rfl rfl ?_
              refine .split 97 rfl (fun h97 => ?_) (fun h97 => ?_)
              · skip
                first | replace h97 := of_decide_eq_false ((Bool.not_eq_true' _).mp h97) | replace h97 := of_decide_eq_false (by simpa using h97)
                refine .e (.fieldAddr fo30_3 rfl) rfl rfl <| .e (.load ag9 rfl .here rfl) rfl rfl <| .on rfl <| .callP cal5 rfl rfl rfl ((Name_ok (s := n) (by unfold StrOk; omega)).castT (hnm h97)) <| .e (.not rfl) rfl rfl <| .e (.pickT rfl rfl) rfl rfl <| .e (.pickF rfl rfl) rfl rfl ?_
                refine .nil <| .go <| .cond_false rfl <| .skip <| .go ?_
                refine .draw [(c8, _), (c9, _)] mixed (.cons (.there <| .here) (.cons .here .nil)) ?_
                refine .t 0 rfl (.loadW ag27 sz27 rfl .here rfl) rfl rfl (by kernel_rfl) <| .t 1 rfl (.loadW ag30 sz30 rfl (.there <| .here) rfl) rfl rfl (by kernel_rfl) <| .one (i := 2) (by kernel_rfl) rfl rfl <| .storeW sz27 rfl rfl rfl rfl rfl rfl (.there <| .there <| .there <| .here) ?_
                refine ⟨(.cons (.there <| .here) (.cons .here .nil)), Imm.le_refl _, ?_⟩
                refine .late (i := 3) (by kernel_rfl) (by kernel_rfl) (by kernel_rfl) rfl rfl <| .storeW sz30 rfl rfl rfl rfl rfl rfl (.there <| .there <| .there <| .there <| .here) <| .blk_normal <| .go <| .region <| .e (.add rfl rfl (by first | exact wrap_succ (by omega) | exact IntWalk.i64_in _ (by omega) | exact rfl)) rfl rfl <| .e (.move rfl) rfl rfl ?_
                refine .nil ?_
                refine .tail ?_
                refine .tail ?_
                refine .tail ?_
                exact .mid ((k + 1, i, n, l2, -1, _, _, I65)) ⟨by dsimp only; omega, by dsimp only; omega, by dsimp only; omega, by dsimp only; omega, by dsimp only; omega, hn1, hn0, hnm, hl2, ⟨_, _, _, rfl⟩, (Imm.le_trans (Imm.le_trans (Imm.le_trans (Imm.le_trans hJ hB) hI52) hI60) hI65), DskR.mono hI65 hf60⟩ ⟨rfl, trivial⟩ rfl rfl (.pre 93 rfl (.app rfl .base))
              · skip
                first | replace h97 := of_decide_eq_true ((Bool.not_eq_false' _).mp h97) | replace h97 := of_decide_eq_true (by simpa using h97)
                refine .off rfl rfl <| .off rfl rfl <| .off rfl rfl <| .off rfl rfl <| .e (.pickF rfl rfl) rfl rfl <| .e (.pickF rfl rfl) rfl rfl ?_
                refine .nil <| .go <| .cond_false rfl <| .skip <| .go ?_
                refine .draw [(c8, _), (c9, _)] mixed (.cons (.there <| .here) (.cons .here .nil)) ?_
                refine .t 0 rfl (.loadW ag27 sz27 rfl .here rfl) rfl rfl (by kernel_rfl) <| .t 1 rfl (.loadW ag30 sz30 rfl (.there <| .here) rfl) rfl rfl (by kernel_rfl) <| .one (i := 2) (by kernel_rfl) rfl rfl <| .storeW sz27 rfl rfl rfl rfl rfl rfl (.there <| .there <| .there <| .here) ?_
                refine ⟨(.cons (.there <| .here) (.cons .here .nil)), Imm.le_refl _, ?_⟩
                refine .late (i := 3) (by kernel_rfl) (by kernel_rfl) (by kernel_rfl) rfl rfl <| .storeW sz30 rfl rfl rfl rfl rfl rfl (.there <| .there <| .there <| .there <| .here) <| .blk_normal <| .go <| .region <| .e (.add rfl rfl (by first | exact wrap_succ (by omega) | exact IntWalk.i64_in _ (by omega) | exact rfl)) rfl rfl <| .e (.move rfl) rfl rfl ?_
                refine .nil ?_
                refine .tail ?_
                refine .tail ?_
                refine .tail ?_
                exact .mid ((k + 1, i, n, l2, -1, _, _, I65)) ⟨by dsimp only; omega, by dsimp only; omega, by dsimp only; omega, by dsimp only; omega, by dsimp only; omega, hn1, hn0, hnm, hl2, ⟨_, _, _, rfl⟩, (Imm.le_trans (Imm.le_trans (Imm.le_trans (Imm.le_trans hJ hB) hI52) hI60) hI65), DskR.mono hI65 hf60⟩ ⟨rfl, trivial⟩ rfl rfl (.pre 93 rfl (.app rfl .base))
          · skip
            replace h56 := of_decide_eq_false h56
            refine .cond_false rfl <| .skip <| .go <| .seq <| .region ?_
            obtain ⟨e0, hdn, hst⟩ | ⟨e8, -⟩ := hsv
            rotate_left
            · exact absurd e8 h56
            subst e0
            obtain ⟨L1, b1, f1⟩ := D1
            dsimp only at hdn hst
            subst hdn
            refine .e (.loadW ag27 sz27 rfl .here rfl) rfl rfl <| .on rfl <| .call cal8 rfl rfl rfl (snLoad_ok hf52 (read_ok hst (by omega) hsn (fun h => absurd h (Nat.succ_ne_zero k)))) fun v65 I65 O65 hI65 hK65 => ?_
            obtain ⟨la65, ll65, lc65, rfl, rfl⟩ := hK65
            refine .e (.move rfl) rfl rfl <| .e (.extract rfl rfl) rfl rfl <| .e (.extract rfl rfl) rfl rfl <| .on rfl <| .alloc zr30 rfl fun c10 _ _ => .on rfl <| .storeW sz30 rfl rfl rfl rfl rfl rfl .here <| .e (.assign rfl) rfl rfl ?_
            refine .nil <| .go <| .seq <| .seq <| .region <| .e (.move rfl) rfl rfl ?_
            refine .e (.neq rfl rfl) rfl rfl <| .e (.move rfl) rfl rfl <| .e (.move rfl) rfl rfl <| .e (.neq rfl rfl) rfl rfl <| .e (.move rfl) rfl rfl <| .off rfl rfl ?_
            refine .off rfl rfl <| .e (.pickF rfl rfl) rfl rfl <| .e (.pickF rfl rfl) rfl rfl <| .nil <| .go <| .cond_false rfl ?_
            refine .skip <| .go <| .seq <| .seq <| .region <| .e (.fieldAddr fo30_3 rfl) rfl rfl ?_
            refine .e (.load ag9 rfl .here rfl) rfl rfl <| .e (.move rfl) rfl rfl <| .e ((EV.cast (u := .bool false) (.strne rfl rfl) (congrArg Value.bool (by simp)))) rfl rfl <| .e (.move rfl) rfl rfl <| .off rfl rfl <| .off rfl rfl ?_
            refine .off rfl rfl <| .off rfl rfl <| .off rfl rfl <| .off rfl rfl <| .off rfl rfl <| .off rfl rfl ?_
            refine .off rfl rfl <| .e (.pickF rfl rfl) rfl rfl <| .e (.move rfl) rfl rfl <| .e (.fieldAddr fo30_3 rfl) rfl rfl <| .e (.load ag9 rfl .here rfl) rfl rfl <| .e (.strne rfl rfl) rfl rfl ?_
            refine .e (.move rfl) rfl rfl ?_
            refine .split 97 rfl (fun h97 => ?_) (fun h97 => ?_)
            · skip
              first | replace h97 := of_decide_eq_false ((Bool.not_eq_true' _).mp h97) | replace h97 := of_decide_eq_false (by simpa using h97)
              refine .e (.fieldAddr fo30_3 rfl) rfl rfl <| .e (.load ag9 rfl .here rfl) rfl rfl <| .on rfl <| .callP cal5 rfl rfl rfl ((Name_ok (s := l[k]) hs25).castT hnk) <| .e (.not rfl) rfl rfl <| .e (.pickT rfl rfl) rfl rfl <| .e (.pickF rfl rfl) rfl rfl ?_
              refine .nil <| .go <| .cond_false rfl <| .skip <| .go ?_
              refine .draw [(c8, _), (c10, _)] mixed (.cons (.there <| .here) (.cons .here .nil)) ?_
              refine .t 0 rfl (.loadW ag27 sz27 rfl .here rfl) rfl rfl (by kernel_rfl) <| .t 1 rfl (.loadW ag30 sz30 rfl (.there <| .here) rfl) rfl rfl (by kernel_rfl) <| .one (i := 2) (by kernel_rfl) rfl rfl <| .storeW sz27 rfl rfl rfl rfl rfl rfl (.there <| .there <| .there <| .here) ?_
              refine ⟨(.cons (.there <| .here) (.cons .here .nil)), Imm.le_refl _, ?_⟩
              refine .late (i := 3) (by kernel_rfl) (by kernel_rfl) (by kernel_rfl) rfl rfl <| .storeW sz30 rfl rfl rfl rfl rfl rfl (.there <| .there <| .there <| .there <| .here) <| .blk_normal <| .go <| .region <| .e (.add rfl rfl (by first | exact wrap_succ (by omega) | exact IntWalk.i64_in _ (by omega) | exact rfl)) rfl rfl <| .e (.move rfl) rfl rfl ?_
              refine .nil ?_
              refine .tail ?_
              refine .tail ?_
              refine .tail ?_
              exact .mid ((k + 1, k + 1, l[k], L1, f1, _, _, I65)) ⟨by dsimp only; omega, by dsimp only; omega, by dsimp only; omega, by dsimp only; omega, by dsimp only; omega, hsn, (fun h => absurd h (Nat.succ_ne_zero k)), (fun _ => hnk), hst, ⟨_, _, _, rfl⟩, (Imm.le_trans (Imm.le_trans (Imm.le_trans hJ hB) hI52) hI65), DskR.mono hI65 hf52⟩ ⟨rfl, trivial⟩ rfl rfl (.pre 86 rfl (.app rfl .base))
            · skip
              first | replace h97 := of_decide_eq_true ((Bool.not_eq_false' _).mp h97) | replace h97 := of_decide_eq_true (by simpa using h97)
              refine .off rfl rfl <| .off rfl rfl <| .off rfl rfl <| .off rfl rfl <| .e (.pickF rfl rfl) rfl rfl <| .e (.pickF rfl rfl) rfl rfl ?_
              refine .nil <| .go <| .cond_false rfl <| .skip <| .go ?_
              refine .draw [(c8, _), (c10, _)] mixed (.cons (.there <| .here) (.cons .here .nil)) ?_
              refine .t 0 rfl (.loadW ag27 sz27 rfl .here rfl) rfl rfl (by kernel_rfl) <| .t 1 rfl (.loadW ag30 sz30 rfl (.there <| .here) rfl) rfl rfl (by kernel_rfl) <| .one (i := 2) (by kernel_rfl) rfl rfl <| .storeW sz27 rfl rfl rfl rfl rfl rfl (.there <| .there <| .there <| .here) ?_
              refine ⟨(.cons (.there <| .here) (.cons .here .nil)), Imm.le_refl _, ?_⟩
              refine .late (i := 3) (by kernel_rfl) (by kernel_rfl) (by kernel_rfl) rfl rfl <| .storeW sz30 rfl rfl rfl rfl rfl rfl (.there <| .there <| .there <| .there <| .here) <| .blk_normal <| .go <| .region <| .e (.add rfl rfl (by first | exact wrap_succ (by omega) | exact IntWalk.i64_in _ (by omega) | exact rfl)) rfl rfl <| .e (.move rfl) rfl rfl ?_
              refine .nil ?_
              refine .tail ?_
              refine .tail ?_
              refine .tail ?_
              exact .mid ((k + 1, k + 1, l[k], L1, f1, _, _, I65)) ⟨by dsimp only; omega, by dsimp only; omega, by dsimp only; omega, by dsimp only; omega, by dsimp only; omega, hsn, (fun h => absurd h (Nat.succ_ne_zero k)), (fun _ => hnk), hst, ⟨_, _, _, rfl⟩, (Imm.le_trans (Imm.le_trans (Imm.le_trans hJ hB) hI52) hI65), DskR.mono hI65 hf52⟩ ⟨rfl, trivial⟩ rfl rfl (.pre 86 rfl (.app rfl .base))
  · skip
    replace h23 := of_decide_eq_false h23
    refine .cond_false rfl <| .exit <| .exit <| .exit <| .blk_exit <| .go ?_
    refine .seq <| .region <| .e (.assign rfl) rfl rfl <| .nil <| .go <| .ret ?_
    refine .tail <| .tail ?_
    refine .back hJ ?_
    refine Post.retE rfl rfl ?_
    rfl

end Go.Proofs.YtjoaccnfnniahaaDoor
