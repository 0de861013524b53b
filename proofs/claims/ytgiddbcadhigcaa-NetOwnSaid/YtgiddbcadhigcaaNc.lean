/- Walks of functions over a symbolic memory, printed by a program of the session. -/
import Derived.Test.YtgiddbcadhigcaaNb
namespace Go.Proofs.Ytgiddbcadhigcaa
open Go.Sy
set_option linter.unusedSimpArgs false
set_option linter.unusedVariables false

def pkt0 : Pkt := ⟨0, 0, ⟨#[]⟩⟩
theorem pkt0R {I : Imm} : PktR I [.int .i64 0, .int .i64 0, .string ⟨#[]⟩] pkt0 := ⟨rfl, by unfold I64 pkt0; decide, by unfold I64 pkt0; decide, by unfold StrOk pkt0; decide⟩
def sendP (n l : List Pkt) : List Pkt := (l.filter rightP).take (4096 - n.length)
def sendR (n l : List Pkt) : List Pkt × Int × Int := if netOk n = true then (n ++ sendP n l, ((sendP n l).length : Int), 0) else ([], 0, 10)
def giveR (n : List Pkt) (i : Int) : List Pkt × Pkt × Int := if netOk n = true then (if i < 0 ∨ (n.length : Int) ≤ i then ([], pkt0, 1) else (n.take i.toNat ++ n.drop (i.toNat + 1), n.getD i.toNat pkt0, 0)) else ([], pkt0, 10)
def twiceR (n : List Pkt) (i : Int) : List Pkt × Int := if netOk n = true then (if i < 0 ∨ (n.length : Int) ≤ i then ([], 1) else if 4096 ≤ n.length then ([], 11) else (n ++ [n.getD i.toNat pkt0], 0)) else ([], 10)
def takeR (n : List Pkt) : List Pkt × Int := if netOk n = true then (n, 0) else ([], 10)
theorem sendR_no {n l : List Pkt} {w : Int} (h : ¬netWhy n = 0) (hw : w = 10) : sendR n l = ([], 0, w) := by subst hw; unfold sendR; rw [(netNo_why h).1]; rfl
theorem sendR_ok {n l : List Pkt} (h : netWhy n = 0) : sendR n l = (n ++ sendP n l, ((sendP n l).length : Int), 0) := by unfold sendR; rw [netOk_why h]; rfl
theorem giveR_no {n : List Pkt} {i w : Int} (h : ¬netWhy n = 0) (hw : w = 10) : giveR n i = ([], pkt0, w) := by subst hw; unfold giveR; rw [(netNo_why h).1]; rfl
theorem giveR_out {n : List Pkt} {i : Int} (h : netWhy n = 0) (hi : i < 0 ∨ (n.length : Int) ≤ i) : giveR n i = ([], pkt0, 1) := by unfold giveR; rw [if_pos (netOk_why h), if_pos hi]
theorem getP {n : List Pkt} {j : Nat} (hj : j < n.length) : n.getD j pkt0 = n[j] := by simp [hj]
theorem giveR_in {n : List Pkt} {i : Int} {j : Nat} (h : netWhy n = 0) (hj : i = (j : Int)) (hl : j < n.length) : giveR n i = (n.take j ++ n.drop (j + 1), n[j], 0) := by
  unfold giveR; rw [if_pos (netOk_why h), if_neg (by omega), show i.toNat = j by omega, getP hl]
theorem twiceR_no {n : List Pkt} {i w : Int} (h : ¬netWhy n = 0) (hw : w = 10) : twiceR n i = ([], w) := by subst hw; unfold twiceR; rw [(netNo_why h).1]; rfl
theorem twiceR_out {n : List Pkt} {i : Int} (h : netWhy n = 0) (hi : i < 0 ∨ (n.length : Int) ≤ i) : twiceR n i = ([], 1) := by unfold twiceR; rw [if_pos (netOk_why h), if_pos hi]
theorem twiceR_full {n : List Pkt} {i : Int} (h : netWhy n = 0) (hi : ¬(i < 0 ∨ (n.length : Int) ≤ i)) (h4 : (4096 : Int) ≤ n.length) : twiceR n i = ([], 11) := by unfold twiceR; rw [if_pos (netOk_why h), if_neg hi, if_pos (by omega)]
theorem twiceR_in {n : List Pkt} {i : Int} {j : Nat} (h : netWhy n = 0) (hj : i = (j : Int)) (hl : j < n.length) (h4 : ¬(4096 : Int) ≤ n.length) : twiceR n i = (n ++ [n[j]], 0) := by
  unfold twiceR; rw [if_pos (netOk_why h), if_neg (by omega), if_neg (by omega), show i.toNat = j by omega, getP hl]
theorem takeR_no {n : List Pkt} {w : Int} (h : ¬netWhy n = 0) (hw : w = 10) : takeR n = ([], w) := by subst hw; unfold takeR; rw [(netNo_why h).1]; rfl
theorem takeR_ok {n : List Pkt} (h : netWhy n = 0) : takeR n = (n, 0) := by unfold takeR; rw [netOk_why h]; rfl
theorem filter_yes {l : List Pkt} {k : Nat} (hk : k < l.length) (h : rightP l[k] = true) : (l.take (k + 1)).filter rightP = (l.take k).filter rightP ++ [l[k]] := by
  rw [List.take_succ_eq_append_getElem hk, List.filter_append]; simp [h]
theorem filter_no {l : List Pkt} {k : Nat} (hk : k < l.length) (h : rightP l[k] = false) : (l.take (k + 1)).filter rightP = (l.take k).filter rightP := by
  rw [List.take_succ_eq_append_getElem hk, List.filter_append]; simp [h]
theorem filter_len {l : List Pkt} {k : Nat} : ((l.take k).filter rightP).length ≤ k := by
  have := List.length_filter_le rightP (l.take k)
  rw [List.length_take] at this; omega
theorem send_full {n l : List Pkt} {k cap : Nat} (hk : k < l.length) (hcap : cap = min l.length (4096 - n.length)) (hx : ((l.take k).filter rightP).length ≤ cap) (h : cap ≤ ((l.take k).filter rightP).length) : (l.take k).filter rightP = sendP n l := by
  have h1 := filter_len (l := l) (k := k)
  have h2 : cap = 4096 - n.length := by omega
  unfold sendP
  have e : l.filter rightP = (l.take k).filter rightP ++ (l.drop k).filter rightP := by rw [← List.filter_append, List.take_append_drop]
  rw [e, List.take_append_of_le_length (show 4096 - n.length ≤ ((l.take k).filter rightP).length by omega), List.take_of_length_le (show ((l.take k).filter rightP).length ≤ 4096 - n.length by omega)]
theorem send_all {n l : List Pkt} {k cap : Nat} (hk : l.length ≤ k) (hcap : cap = min l.length (4096 - n.length)) (hx : ((l.take k).filter rightP).length ≤ cap) : (l.take k).filter rightP = sendP n l := by
  have h3 := List.length_filter_le rightP l
  rw [List.take_of_length_le hk] at hx ⊢
  unfold sendP
  rw [List.take_of_length_le (show (l.filter rightP).length ≤ 4096 - n.length by omega)]

set_option maxHeartbeats 4000000 in
set_option maxRecDepth 20000 in
theorem nSend_ok {I : Imm} {O : Own} {cs : List Value} {n : List Pkt} (hn : NetR I cs n) {v : Value} {l : List Pkt} (hl : PktsR I v l) :
    Go.Sy.Does Try.prog 8 [.agg ⟨cs⟩, v] I O (fun u I' O' => I' = I ∧ ∃ v ws ob, u = .tuple ⟨[.agg ⟨[v]⟩, .int .i64 (sendR n l).2.1, .int .i64 (sendR n l).2.2]⟩ ∧ OwnS 3 v (sendR n l).1.length ws ob ∧ DR PktR 3 I ws (sendR n l).1 ∧ O' = ob ++ O) := by
  have hn0' := hn
  obtain ⟨nv, rfl, hnv⟩ := hn
  have hn0 := hnv
  obtain ⟨na, ncap, rfl, hn1, hn2, -⟩ := hnv
  have hl0 := hl
  obtain ⟨la, lcap, rfl, hl1, hl2, -⟩ := hl
  have hprs : ∀ p ∈ sendP n l, PktR I p.cells p := fun p hp => by
    have hm := (List.mem_filter.1 (List.mem_of_mem_take hp)).1
    obtain ⟨j, hj, rfl⟩ := List.mem_iff_getElem.1 hm
    obtain ⟨_, _, _, _, _, hr⟩ := SlR.at_ hl0 hj
    exact ⟨rfl, hr.2⟩
  refine Go.Sy.Does.enter Try.func8 rfl Try.ntmps8 rfl ?_
  refine .seq <| .region <| .on rfl <| .box rfl rfl rfl fun c1 _ _ => .on rfl <| .alloc zr24 rfl fun c2 _ _ => .e (.assign rfl) rfl rfl <| .e (.assign rfl) rfl rfl ?_
  refine .nil <| .go <| .scope <| .seq <| .seq <| .region ?_
  refine .e (.loadW ag24 sz24 rfl (.there <| .here) rfl) rfl rfl <| .on rfl <| .callP cal18 rfl rfl rfl (nCheck_ok hn0') <| .e (.assign rfl) rfl rfl <| .nil <| .go <| .seq ?_
  refine .region <| .e (.move rfl) rfl rfl <| .e (.neq rfl rfl) rfl rfl <| .nil <| .go ?_
  refine .split 16 rfl (fun h16 => ?_) (fun h16 => ?_)
  · skip
    first | replace h16 := of_decide_eq_false ((Bool.not_eq_true' _).mp h16) | replace h16 := of_decide_eq_false (by simpa using h16)
    refine .cond_true rfl <| .seq <| .region <| .e (.build bs24 zv24 rfl rfl) rfl rfl <| .e (.move rfl) rfl rfl <| .on rfl <| .storeW sz24 rfl rfl rfl rfl rfl rfl .here ?_
    refine .e (.assign rfl) rfl rfl <| .e (.assign rfl) rfl rfl <| .nil <| .go <| .ret <| .ret ?_
    refine .sc_ret ?_
    refine Post.rets rfl (.agg rfl ag24 sz24 .here rfl (.tmp rfl (.tmp rfl .nil))) rfl (Imm.le_refl _) (fun w h => (Sat.tail (Sat.tail h))) ?_
    rw [sendR_no h16 (netNo_why h16).2]
    exact ⟨rfl, _, [], [], rfl, OwnS.nil, DR.nil, rfl⟩
  · skip
    first | replace h16 := of_decide_eq_true ((Bool.not_eq_false' _).mp h16) | replace h16 := of_decide_eq_true (by simpa using h16)
    have hnl := netOk_len (netOk_why h16)
    refine .cond_false rfl <| .skip <| .go <| .seq <| .region <| .e (.move rfl) rfl rfl ?_
    refine .e (.len sl22 rfl rfl) rfl rfl <| .e (.fieldAddr fo24_0 rfl) rfl rfl <| .e (.load ag22 rfl (.there <| .here) rfl) rfl rfl <| .e (.len sl22 rfl rfl) rfl rfl <| .e (.sub rfl rfl (IntWalk.i64_in _ (by omega))) rfl rfl <| .e (.min2 rfl rfl rfl) rfl rfl ?_
    obtain ⟨cap, hcap, hcapE⟩ : ∃ cap : Nat, cap = min l.length (4096 - n.length) ∧ (if (4096 : Int) - (n.length : Int) < (l.length : Int) then (4096 : Int) - (n.length : Int) else (l.length : Int)) = (cap : Int) := ⟨min l.length (4096 - n.length), rfl, by split <;> omega⟩
    refine .on rfl <| .makeChan Try.underlying46 by30 rfl hcapE (by omega) (by omega) rfl fun c3 _ _ => .e (.assign rfl) rfl rfl <| .nil <| .go <| .seq <| .label ?_
    refine .go ?_
    refine .meetO (σ := Unit) [10, 27, 28, 29, 30, 31, 32, 33, 34, 35, 36, 37, 38, 39, 40, 41] (fun _ => True) (fun _ => []) (fun _ => I) (fun R _ => (c3, .chan cap ⟨(sendP n l).map pv⟩ false (sendP n l).length 0 false) :: R.tail) ?_ ?_
    · skip
      refine .seq <| .region <| .e (.move rfl) rfl rfl <| .e (.len sl22 rfl rfl) rfl rfl <| .e (.move rfl) rfl rfl <| .nil ?_
      refine .go <| .block ?_
      refine .loopM [10, 29, 30, 31, 32, 33, 34, 35, 36, 37, 38, 39, 40, 41] (fun k => l.length - k) (fun k => k ≤ l.length ∧ ((l.take k).filter rightP).length ≤ cap) (fun k => [(29, .int .i64 k)]) (fun _ => _) (fun k => (c3, .chan cap ⟨((l.take k).filter rightP).map pv⟩ false ((l.take k).filter rightP).length 0 false) :: _) (0) ⟨by omega, Nat.zero_le _⟩ ⟨rfl, trivial⟩ rfl rfl ?_
      intro k hk
      obtain ⟨hk, hxc⟩ := hk
      refine .seq <| .region <| .e (.lss rfl rfl) rfl rfl <| .nil <| .go <| .seq ?_
      refine .split 30 rfl (fun h30 => ?_) (fun h30 => ?_)
      · skip
        replace h30 := of_decide_eq_true h30
        refine .cond_true rfl <| .skip <| .go <| .seq <| .block <| .seq ?_
        refine .region ?_
        obtain ⟨eb31, eo31, cs31, hd31, hat31, hr31⟩ := SlR.at_ hl0 (k := k) (by omega)
        cases hd31
        have hp31 := hr31
        obtain ⟨rfl, hx31, hy31, hz31⟩ := hr31
        refine .e (.indexAddrL sl22 rfl rfl rfl (by omega)) rfl rfl <| .e (.loadIA ag30 sz30 rfl hat31 rfl) rfl rfl <| .on rfl <| .alloc zr30 rfl fun c4 _ _ => .on rfl <| .storeW sz30 rfl rfl rfl rfl rfl rfl .here <| .nil <| .go ?_
        refine .seq <| .seq <| .region <| .e (.loadW ag30 sz30 rfl .here rfl) rfl rfl <| .on rfl <| .callP cal21 rfl rfl rfl (right_ok hp31) <| .e (.not rfl) rfl rfl ?_
        refine .nil <| .go ?_
        refine .split 35 rfl (fun h35 => ?_) (fun h35 => ?_)
        · skip
          refine .cond_true rfl <| .exit <| .exit <| .blk_exit <| .go <| .region ?_
          refine .e (.add rfl rfl (by first | exact wrap_succ (by omega) | exact IntWalk.i64_in _ (by omega) | exact rfl)) rfl rfl <| .e (.move rfl) rfl rfl <| .nil ?_
          refine .tail ?_
          exact .mid (k + 1) ⟨by omega, by omega, by rw [filter_no (by omega) (by simpa using h35)]; exact hxc⟩ ⟨rfl, trivial⟩ rfl (by rw [filter_no (by omega) (by simpa using h35)]) (.pre 11 rfl (.app rfl .base))
        · skip
          refine .cond_false rfl <| .skip <| .go <| .seq <| .seq <| .region ?_
          refine .e (.move rfl) rfl rfl <| .nil <| .go <| .region <| .e (.loadW ag30 sz30 rfl .here rfl) rfl rfl <| .nil ?_
          refine .go <| .seq ?_
          refine .selectSend rfl rfl zv30 rfl rfl (.there <| .here) (fun hr => ?_) (fun hr => ?_)
          · skip
            refine .e (.extract rfl rfl) rfl rfl <| .e (.eql rfl rfl) rfl rfl <| .nil <| .go <| .block <| .cond_true rfl ?_
            refine .skip <| .blk_normal <| .blk_normal <| .go <| .region <| .e (.add rfl rfl (by first | exact wrap_succ (by omega) | exact IntWalk.i64_in _ (by omega) | exact rfl)) rfl rfl ?_
            refine .e (.move rfl) rfl rfl <| .nil ?_
            refine .tail ?_
            exact .mid (k + 1) ⟨by omega, by omega, by rw [filter_yes (by omega) (by simpa using h35), List.length_append]; simp at hr; simp; omega⟩ ⟨rfl, trivial⟩ rfl (by rw [filter_yes (by omega) (by simpa using h35), push_map, List.length_append]; rfl) (.pre 16 rfl (.app rfl .base))
          · skip
            refine .e (.extract rfl rfl) rfl rfl <| .e (.eql rfl rfl) rfl rfl <| .nil <| .go <| .block <| .cond_false rfl ?_
            refine .exit <| .blk_other rfl <| .blk_other rfl <| .exit <| .exit <| .blk_exit ?_
            refine .tail ?_
            have hsf := send_full (n := n) (k := k) (by omega) hcap hxc (by simpa using hr)
            exact .mid (()) trivial trivial rfl (by rw [hsf]; rfl) (.pre 14 rfl (.app rfl (.del rfl (.pre 3 rfl .self))))
      · skip
        replace h30 := of_decide_eq_false h30
        refine .cond_false rfl <| .exit <| .exit <| .exit <| .blk_exit ?_
        have hsf := send_all (n := n) (k := k) (by omega) hcap hxc
        exact .mid (()) trivial trivial rfl (by rw [hsf]; rfl) (.pre 2 rfl (.app rfl (.del rfl (.pre 3 rfl .self))))
    · intro _ _
      have hsp : (sendP n l).length ≤ 4096 - n.length := by unfold sendP; rw [List.length_take]; omega
      refine .seq <| .region <| .e (.move rfl) rfl rfl <| .on rfl <| .close rfl .here rfl <| .nil <| .go ?_
      refine .seq <| .region <| .e (.fieldAddr fo24_0 rfl) rfl rfl <| .e (.load ag22 rfl (.there <| .there <| .here) rfl) rfl rfl <| .on rfl <| .call cal22 rfl rfl rfl (clonePkt_ok hn0 (by omega)) fun v45 I45 O45 hI45 hK45 => ?_
      obtain ⟨hq45, ws45, ob45, ho45, hd45, rfl⟩ := hK45
      replace hq45 := hq45.symm
      subst hq45
      obtain ⟨ad45, cap45, rfl⟩ := ho45.form
      refine .e (.assign rfl) rfl rfl <| .nil <| .go <| .seq <| .seq <| .region ?_
      refine .e (.move rfl) rfl rfl <| .nil <| .go <| .block ?_
      refine .loopM [11, 12, 47, 48, 49, 50, 51, 52, 53] (fun s => (sendP n l).length - s.1) (fun s => s.1 ≤ (sendP n l).length ∧ OwnS 3 s.2.1 (n ++ (sendP n l).take s.1).length s.2.2.1 s.2.2.2 ∧ DR PktR 3 I s.2.2.1 (n ++ (sendP n l).take s.1)) (fun s => [(11, s.2.1)]) (fun _ => _) (fun s => s.2.2.2 ++ (c3, .chan cap ⟨((sendP n l).drop s.1).map pv⟩ true (sendP n l).length s.1 false) :: _) (((0, .slice ad45 n.length cap45, ws45, ob45) : Nat × Value × List Value × Own)) ⟨Nat.zero_le _, by simpa using ho45, by simpa using hd45⟩ ⟨rfl, trivial⟩ rfl rfl ?_
      intro ⟨k, vL, wsL, obL⟩ hk
      dsimp only at hk ⊢
      obtain ⟨hk, hoL, hdL⟩ := hk
      obtain ⟨adL, capL, rfl⟩ := hoL.form
      have hlen : (n ++ (sendP n l).take k).length = n.length + k := by rw [List.length_append, List.length_take]; omega
      refine .seq ?_
      refine .recvShut rfl rfl Try.underlying46 zv30 rfl (.app <| .here) (fun vr lr hr => ?_) (fun hr => ?_)
      · skip
        refine .e (.extract rfl rfl) rfl rfl <| .nil <| .go <| .seq <| .cond_true rfl <| .skip ?_
        refine .go <| .block <| .seq <| .region <| .e (.extract rfl rfl) rfl rfl <| .on rfl <| .alloc zr30 rfl fun c5 _ _ => ?_
        obtain ⟨hkk, rfl⟩ := drop_cons hr
        have hpk : PktR I (sendP n l)[k].cells (sendP n l)[k] := hprs _ (List.getElem_mem hkk)
        refine .on rfl <| .storeW sz30 rfl rfl rfl rfl rfl rfl .here <| .nil <| .go <| .region <| .e (.move rfl) rfl rfl <| .e (.loadW ag30 sz30 rfl .here rfl) rfl rfl ?_
        refine .on rfl <| .buildSlice Try.underlying22 sz30 (by decide) (by decide) zv30 rfl rfl rfl rfl rfl fun c6 _ _ => .on rfl <| .append Try.underlying22 Try.underlying22 sz30 by30 zv30 rfl rfl rfl (.there <| .there <| .front) hoL ((OwnS.made (k := 3) rfl (by decide)).src (I := _) .here) rfl rfl (by omega) (by omega) rfl fun v53 ob53 ho53 => .e (.assign rfl) rfl rfl <| .nil <| .blk_normal ?_
        refine .front (.app <| .here) ?_
        refine .tail ?_
        refine .front (.app <| .here) ?_
        refine .tail ?_
        have e6 : n ++ (sendP n l).take (k + 1) = (n ++ (sendP n l).take k) ++ [(sendP n l)[k]] := by rw [List.take_succ_eq_append_getElem hkk, List.append_assoc]
        have e7 : (n ++ (sendP n l).take (k + 1)).length = (n ++ (sendP n l).take k).length + 1 := by rw [e6, List.length_append]; rfl
        exact .mid ((k + 1, _, _, _)) ⟨by dsimp only; omega, by dsimp only; omega, by dsimp only; rw [e7]; exact ho53, by dsimp only; rw [e6]; exact hdL.append (DR.single rfl hpk)⟩ ⟨rfl, trivial⟩ rfl (by dsimp only; rw [tail_drop] <;> rfl) (.pre 9 rfl (.app rfl .base))
      · skip
        refine .e (.extract rfl rfl) rfl rfl <| .nil <| .go <| .seq <| .cond_false rfl <| .exit ?_
        refine .exit <| .exit <| .blk_exit <| .go <| .seq ?_
        refine .draw [(c1, _)] mixed (.cons (.app <| .there <| .there <| .here) .nil) ?_
        refine .t 0 rfl (.move rfl) rfl rfl (by kernel_rfl) <| .t 1 rfl (.build bs24 zv24 rfl rfl) rfl rfl (by kernel_rfl) <| .t 2 rfl (.move rfl) rfl rfl (by kernel_rfl) ?_
        have hw61 : IntKind.i64.wrap (((n ++ (sendP n l).take k).length : Int) - (n.length : Int)) = ((sendP n l).length : Int) := by rw [hlen]; have := drop_nil hr; exact (IntWalk.i64_in _ (by omega)).trans (by omega)
        refine .t 3 rfl (.len sl22 rfl rfl) rfl rfl (by kernel_rfl) <| .t 4 rfl (.fieldAddr fo24_0 rfl) rfl rfl (by kernel_rfl) <| .t 5 rfl (.load ag22 rfl .here rfl) rfl rfl (by kernel_rfl) <| .t 6 rfl (.len sl22 rfl rfl) rfl rfl (by kernel_rfl) <| .t 7 rfl (.sub rfl rfl hw61) rfl rfl (by kernel_rfl) <| .one (i := 8) (by kernel_rfl) rfl rfl ?_
        refine .storeW sz24 rfl rfl rfl rfl rfl rfl (.app <| .there <| .here) ?_
        refine ⟨(.cons (.app <| .there <| .there <| .here) .nil), Imm.le_refl _, ?_⟩
        refine .t 9 rfl (.assign rfl) rfl rfl (by kernel_rfl) <| .t 10 rfl (.assign rfl) rfl rfl (by kernel_rfl) <| .done (by kernel_rfl) <| .go <| .ret <| .sc_ret ?_
        refine Post.rets rfl (.agg rfl ag24 sz24 (.app <| .there <| .here) rfl (.tmp rfl (.tmp rfl .nil))) rfl (Imm.le_refl _) (fun w h => (Sat.tail (Sat.rem (Sat.tail (Sat.rem (Sat.tail (Sat.rem h (Rem.app <| Rem.here))) (Rem.app <| Rem.here))) (Rem.app <| Rem.here)))) ?_
        have ek : k = (sendP n l).length := by have := drop_nil hr; omega
        subst ek
        rw [sendR_ok h16]
        refine ⟨rfl, _, wsL, obL, rfl, ?_, ?_, rfl⟩
        · rw [List.take_length] at hoL ⊢
          exact hoL
        · rw [List.take_length] at hdL
          exact hdL

end Go.Proofs.Ytgiddbcadhigcaa
