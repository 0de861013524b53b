/- Walks of functions over a symbolic memory, printed by a program of the session. -/
import Derived.Test.YtjoaccnfnniahaaCa
import Derived.Test.YtjoaccnfnniahaaBb
import Derived.Test.YtjoaccnfnniahaaPb
namespace Go.Proofs.Ytjoaccnfnniahaa
open Go.Sy
set_option linter.unusedSimpArgs false
set_option linter.unusedVariables false

set_option maxHeartbeats 1000000 in
set_option maxRecDepth 20000 in
theorem mNumbers2_ok {I : Imm} {O : Own} {c cl : Nat} {s : ByteArray} {ob : Own} {a b : Int} (ha : U64 a) (hb : U64 b) (hB : BldM c s ob) (hsz : s.size ≤ 1000000) :
    Go.Sy.Does Try.prog 48 [.pointer (some ⟨c, 0, none⟩), .slice (some ⟨cl, 0, none⟩) 2 2] I (ob ++ ((cl, .cells ⟨[.int .u64 a, .int .u64 b]⟩ 40 (0, 0)) :: O)) (fun u I' O' => u = .tuple ⟨[]⟩ ∧ I' = I ∧ ∃ ob', BldM c (s ++ numB a.toNat ++ numB b.toNat) ob' ∧ O' = ob' ++ O) := by
  have hka := kby_le (u64_nat ha).2
  have hkb := kby_le (u64_nat hb).2
  refine Go.Sy.Does.enter Try.func48 rfl Try.ntmps48 rfl ?_
  refine .seq <| .region <| .e (.move rfl) rfl rfl <| .e (.len sl130 rfl rfl) rfl rfl <| .e (.move rfl) rfl rfl <| .nil ?_
  refine .go <| .block <| .unroll 2 <| .seq <| .region <| .e (.lss rfl rfl) rfl rfl ?_
  refine .nil <| .go <| .seq <| .cond_true rfl <| .skip <| .go ?_
  refine .seq <| .block <| .seq <| .region <| .e (.indexAddrL sl130 rfl rfl rfl (by decide)) rfl rfl <| .e (.load ag40 rfl (.app <| .here) rfl) rfl rfl ?_
  refine .e (.assign rfl) rfl rfl <| .nil <| .go ?_
  refine .draw [] mixed .nil ?_
  refine .t 0 rfl (.move rfl) rfl rfl (by kernel_rfl) <| .t 1 rfl (.nilCheck rfl) rfl rfl (by kernel_rfl) <| .t 2 rfl (.fieldAddr fo107_0 rfl) rfl rfl (by kernel_rfl) <| .t 3 rfl (.move rfl) rfl rfl (by kernel_rfl) <| .one (i := 4) (by kernel_rfl) rfl rfl <| .callP cal68 rfl rfl rfl (numberI_ok ha) ?_
  refine ⟨.nil, Imm.le_refl _, ?_⟩
  refine .one (i := 5) (by kernel_rfl) rfl rfl ?_
  refine .call cal67 rfl rfl rfl (bwriteM_ok hB (by simp only [ByteArray.size_append, numB_size, textB_size]; omega)) fun v171 I171 O171 hI171 hK171 => ?_
  obtain ⟨rfl, hq171, ob171, hB171, rfl⟩ := hK171
  replace hq171 := hq171.symm
  subst hq171
  refine ⟨.nil, Imm.le_refl _, ?_⟩
  refine .done (by kernel_rfl) <| .blk_normal <| .go <| .region <| .e (.add (c := 1) rfl rfl (by decide)) rfl rfl <| .e (.move rfl) rfl rfl ?_
  refine .nil <| .again <| .seq <| .region <| .e (.lss rfl rfl) rfl rfl <| .nil ?_
  refine .go <| .seq <| .cond_true rfl <| .skip <| .go <| .seq ?_
  refine .block <| .seq <| .region <| .e (.indexAddrL sl130 rfl rfl rfl (by decide)) rfl rfl <| .e (.load ag40 rfl (.app <| .here) rfl) rfl rfl <| .e (.assign rfl) rfl rfl ?_
  refine .nil <| .go ?_
  refine .draw [] mixed .nil ?_
  refine .t 0 rfl (.move rfl) rfl rfl (by kernel_rfl) <| .t 1 rfl (.nilCheck rfl) rfl rfl (by kernel_rfl) <| .t 2 rfl (.fieldAddr fo107_0 rfl) rfl rfl (by kernel_rfl) <| .t 3 rfl (.move rfl) rfl rfl (by kernel_rfl) <| .one (i := 4) (by kernel_rfl) rfl rfl <| .callP cal68 rfl rfl rfl (numberI_ok hb) ?_
  refine ⟨.nil, Imm.le_refl _, ?_⟩
  refine .one (i := 5) (by kernel_rfl) rfl rfl ?_
  refine .call cal67 rfl rfl rfl (bwriteM_ok hB171 (by simp only [ByteArray.size_append, numB_size, textB_size]; omega)) fun v172 I172 O172 hI172 hK172 => ?_
  obtain ⟨rfl, hq172, ob172, hB172, rfl⟩ := hK172
  replace hq172 := hq172.symm
  subst hq172
  refine ⟨.nil, Imm.le_refl _, ?_⟩
  refine .done (by kernel_rfl) <| .blk_normal <| .go <| .region <| .e (.add (c := 2) rfl rfl (by decide)) rfl rfl <| .e (.move rfl) rfl rfl ?_
  refine .nil <| .again <| .seq <| .region <| .e (.lss rfl rfl) rfl rfl <| .nil ?_
  refine .go <| .seq <| .cond_false rfl <| .exit <| .exit <| .exit ?_
  refine .blk_exit <| .normal ?_
  refine Post.rets rfl .nil rfl (Imm.le_refl _) (fun w h => (Sat.tail (Sat.rem h (Rem.app <| Rem.here)))) ?_
  exact ⟨rfl, rfl, _, hB172, rfl⟩

set_option maxHeartbeats 1000000 in
set_option maxRecDepth 20000 in
theorem mNumbers4_ok {I : Imm} {O : Own} {c cl : Nat} {s : ByteArray} {ob : Own} {a b d e : Int} (ha : U64 a) (hb : U64 b) (hd : U64 d) (he : U64 e) (hB : BldM c s ob) (hsz : s.size ≤ 1000000) :
    Go.Sy.Does Try.prog 48 [.pointer (some ⟨c, 0, none⟩), .slice (some ⟨cl, 0, none⟩) 4 4] I (ob ++ ((cl, .cells ⟨[.int .u64 a, .int .u64 b, .int .u64 d, .int .u64 e]⟩ 40 (0, 0)) :: O)) (fun u I' O' => u = .tuple ⟨[]⟩ ∧ I' = I ∧ ∃ ob', BldM c (s ++ numB a.toNat ++ numB b.toNat ++ numB d.toNat ++ numB e.toNat) ob' ∧ O' = ob' ++ O) := by
  have hka := kby_le (u64_nat ha).2
  have hkb := kby_le (u64_nat hb).2
  have hkd := kby_le (u64_nat hd).2
  have hke := kby_le (u64_nat he).2
  refine Go.Sy.Does.enter Try.func48 rfl Try.ntmps48 rfl ?_
  refine .seq <| .region <| .e (.move rfl) rfl rfl <| .e (.len sl130 rfl rfl) rfl rfl <| .e (.move rfl) rfl rfl <| .nil ?_
  refine .go <| .block <| .unroll 4 <| .seq <| .region <| .e (.lss rfl rfl) rfl rfl ?_
  refine .nil <| .go <| .seq <| .cond_true rfl <| .skip <| .go ?_
  refine .seq <| .block <| .seq <| .region <| .e (.indexAddrL sl130 rfl rfl rfl (by decide)) rfl rfl <| .e (.load ag40 rfl (.app <| .here) rfl) rfl rfl ?_
  refine .e (.assign rfl) rfl rfl <| .nil <| .go ?_
  refine .draw [] mixed .nil ?_
  refine .t 0 rfl (.move rfl) rfl rfl (by kernel_rfl) <| .t 1 rfl (.nilCheck rfl) rfl rfl (by kernel_rfl) <| .t 2 rfl (.fieldAddr fo107_0 rfl) rfl rfl (by kernel_rfl) <| .t 3 rfl (.move rfl) rfl rfl (by kernel_rfl) <| .one (i := 4) (by kernel_rfl) rfl rfl <| .callP cal68 rfl rfl rfl (numberI_ok ha) ?_
  refine ⟨.nil, Imm.le_refl _, ?_⟩
  refine .one (i := 5) (by kernel_rfl) rfl rfl ?_
  refine .call cal67 rfl rfl rfl (bwriteM_ok hB (by simp only [ByteArray.size_append, numB_size, textB_size]; omega)) fun v171 I171 O171 hI171 hK171 => ?_
  obtain ⟨rfl, hq171, ob171, hB171, rfl⟩ := hK171
  replace hq171 := hq171.symm
  subst hq171
  refine ⟨.nil, Imm.le_refl _, ?_⟩
  refine .done (by kernel_rfl) <| .blk_normal <| .go <| .region <| .e (.add (c := 1) rfl rfl (by decide)) rfl rfl <| .e (.move rfl) rfl rfl ?_
  refine .nil <| .again <| .seq <| .region <| .e (.lss rfl rfl) rfl rfl <| .nil ?_
  refine .go <| .seq <| .cond_true rfl <| .skip <| .go <| .seq ?_
  refine .block <| .seq <| .region <| .e (.indexAddrL sl130 rfl rfl rfl (by decide)) rfl rfl <| .e (.load ag40 rfl (.app <| .here) rfl) rfl rfl <| .e (.assign rfl) rfl rfl ?_
  refine .nil <| .go ?_
  refine .draw [] mixed .nil ?_
  refine .t 0 rfl (.move rfl) rfl rfl (by kernel_rfl) <| .t 1 rfl (.nilCheck rfl) rfl rfl (by kernel_rfl) <| .t 2 rfl (.fieldAddr fo107_0 rfl) rfl rfl (by kernel_rfl) <| .t 3 rfl (.move rfl) rfl rfl (by kernel_rfl) <| .one (i := 4) (by kernel_rfl) rfl rfl <| .callP cal68 rfl rfl rfl (numberI_ok hb) ?_
  refine ⟨.nil, Imm.le_refl _, ?_⟩
  refine .one (i := 5) (by kernel_rfl) rfl rfl ?_
  refine .call cal67 rfl rfl rfl (bwriteM_ok hB171 (by simp only [ByteArray.size_append, numB_size, textB_size]; omega)) fun v172 I172 O172 hI172 hK172 => ?_
  obtain ⟨rfl, hq172, ob172, hB172, rfl⟩ := hK172
  replace hq172 := hq172.symm
  subst hq172
  refine ⟨.nil, Imm.le_refl _, ?_⟩
  refine .done (by kernel_rfl) <| .blk_normal <| .go <| .region <| .e (.add (c := 2) rfl rfl (by decide)) rfl rfl <| .e (.move rfl) rfl rfl ?_
  refine .nil <| .again <| .seq <| .region <| .e (.lss rfl rfl) rfl rfl <| .nil ?_
  refine .go <| .seq <| .cond_true rfl <| .skip <| .go <| .seq ?_
  refine .block <| .seq <| .region <| .e (.indexAddrL sl130 rfl rfl rfl (by decide)) rfl rfl <| .e (.load ag40 rfl (.app <| .here) rfl) rfl rfl <| .e (.assign rfl) rfl rfl ?_
  refine .nil <| .go ?_
  refine .draw [] mixed .nil ?_
  refine .t 0 rfl (.move rfl) rfl rfl (by kernel_rfl) <| .t 1 rfl (.nilCheck rfl) rfl rfl (by kernel_rfl) <| .t 2 rfl (.fieldAddr fo107_0 rfl) rfl rfl (by kernel_rfl) <| .t 3 rfl (.move rfl) rfl rfl (by kernel_rfl) <| .one (i := 4) (by kernel_rfl) rfl rfl <| .callP cal68 rfl rfl rfl (numberI_ok hd) ?_
  refine ⟨.nil, Imm.le_refl _, ?_⟩
  refine .one (i := 5) (by kernel_rfl) rfl rfl ?_
  refine .call cal67 rfl rfl rfl (bwriteM_ok hB172 (by simp only [ByteArray.size_append, numB_size, textB_size]; omega)) fun v173 I173 O173 hI173 hK173 => ?_
  obtain ⟨rfl, hq173, ob173, hB173, rfl⟩ := hK173
  replace hq173 := hq173.symm
  subst hq173
  refine ⟨.nil, Imm.le_refl _, ?_⟩
  refine .done (by kernel_rfl) <| .blk_normal <| .go <| .region <| .e (.add (c := 3) rfl rfl (by decide)) rfl rfl <| .e (.move rfl) rfl rfl ?_
  refine .nil <| .again <| .seq <| .region <| .e (.lss rfl rfl) rfl rfl <| .nil ?_
  refine .go <| .seq <| .cond_true rfl <| .skip <| .go <| .seq ?_
  refine .block <| .seq <| .region <| .e (.indexAddrL sl130 rfl rfl rfl (by decide)) rfl rfl <| .e (.load ag40 rfl (.app <| .here) rfl) rfl rfl <| .e (.assign rfl) rfl rfl ?_
  refine .nil <| .go ?_
  refine .draw [] mixed .nil ?_
  refine .t 0 rfl (.move rfl) rfl rfl (by kernel_rfl) <| .t 1 rfl (.nilCheck rfl) rfl rfl (by kernel_rfl) <| .t 2 rfl (.fieldAddr fo107_0 rfl) rfl rfl (by kernel_rfl) <| .t 3 rfl (.move rfl) rfl rfl (by kernel_rfl) <| .one (i := 4) (by kernel_rfl) rfl rfl <| .callP cal68 rfl rfl rfl (numberI_ok he) ?_
  refine ⟨.nil, Imm.le_refl _, ?_⟩
  refine .one (i := 5) (by kernel_rfl) rfl rfl ?_
  refine .call cal67 rfl rfl rfl (bwriteM_ok hB173 (by simp only [ByteArray.size_append, numB_size, textB_size]; omega)) fun v174 I174 O174 hI174 hK174 => ?_
  obtain ⟨rfl, hq174, ob174, hB174, rfl⟩ := hK174
  replace hq174 := hq174.symm
  subst hq174
  refine ⟨.nil, Imm.le_refl _, ?_⟩
  refine .done (by kernel_rfl) <| .blk_normal <| .go <| .region <| .e (.add (c := 4) rfl rfl (by decide)) rfl rfl <| .e (.move rfl) rfl rfl ?_
  refine .nil <| .again <| .seq <| .region <| .e (.lss rfl rfl) rfl rfl <| .nil ?_
  refine .go <| .seq <| .cond_false rfl <| .exit <| .exit <| .exit ?_
  refine .blk_exit <| .normal ?_
  refine Post.rets rfl .nil rfl (Imm.le_refl _) (fun w h => (Sat.tail (Sat.rem h (Rem.app <| Rem.here)))) ?_
  exact ⟨rfl, rfl, _, hB174, rfl⟩

set_option maxHeartbeats 1000000 in
set_option maxRecDepth 20000 in
theorem mTexts_ok {I : Imm} {O : Own} {c cl : Nat} {s a : ByteArray} {ob : Own} (ha : a.size ≤ 100000) (hB : BldM c s ob) (hsz : s.size ≤ 1000000) :
    Go.Sy.Does Try.prog 50 [.pointer (some ⟨c, 0, none⟩), .slice (some ⟨cl, 0, none⟩) 1 1] I (ob ++ ((cl, .cells ⟨[.string a]⟩ 9 (0, 0)) :: O)) (fun u I' O' => u = .tuple ⟨[]⟩ ∧ I' = I ∧ ∃ ob', BldM c (s ++ textB a) ob' ∧ O' = ob' ++ O) := by
  have hka := kby_le (n := a.size) (by omega)
  refine Go.Sy.Does.enter Try.func50 rfl Try.ntmps50 rfl ?_
  refine .seq <| .region <| .e (.move rfl) rfl rfl <| .e (.len sl22 rfl rfl) rfl rfl <| .e (.move rfl) rfl rfl <| .nil ?_
  refine .go <| .block <| .unroll 1 <| .seq <| .region <| .e (.lss rfl rfl) rfl rfl ?_
  refine .nil <| .go <| .seq <| .cond_true rfl <| .skip <| .go ?_
  refine .seq <| .block <| .seq <| .region <| .e (.indexAddrL sl22 rfl rfl rfl (by decide)) rfl rfl <| .e (.load ag9 rfl (.app <| .here) rfl) rfl rfl ?_
  refine .e (.assign rfl) rfl rfl <| .nil <| .go ?_
  refine .draw [] mixed .nil ?_
  refine .t 0 rfl (.move rfl) rfl rfl (by kernel_rfl) <| .t 1 rfl (.nilCheck rfl) rfl rfl (by kernel_rfl) <| .t 2 rfl (.fieldAddr fo107_0 rfl) rfl rfl (by kernel_rfl) <| .t 3 rfl (.move rfl) rfl rfl (by kernel_rfl) <| .one (i := 4) (by kernel_rfl) rfl rfl <| .callP cal69 rfl rfl rfl (text_ok (s := a) (by omega)) ?_
  refine ⟨.nil, Imm.le_refl _, ?_⟩
  refine .one (i := 5) (by kernel_rfl) rfl rfl ?_
  refine .call cal67 rfl rfl rfl (bwriteM_ok hB (by simp only [ByteArray.size_append, numB_size, textB_size]; omega)) fun v171 I171 O171 hI171 hK171 => ?_
  obtain ⟨rfl, hq171, ob171, hB171, rfl⟩ := hK171
  replace hq171 := hq171.symm
  subst hq171
  refine ⟨.nil, Imm.le_refl _, ?_⟩
  refine .done (by kernel_rfl) <| .blk_normal <| .go <| .region <| .e (.add (c := 1) rfl rfl (by decide)) rfl rfl <| .e (.move rfl) rfl rfl ?_
  refine .nil <| .again <| .seq <| .region <| .e (.lss rfl rfl) rfl rfl <| .nil ?_
  refine .go <| .seq <| .cond_false rfl <| .exit <| .exit <| .exit ?_
  refine .blk_exit <| .normal ?_
  refine Post.rets rfl .nil rfl (Imm.le_refl _) (fun w h => (Sat.tail (Sat.rem h (Rem.app <| Rem.here)))) ?_
  exact ⟨rfl, rfl, _, hB171, rfl⟩

end Go.Proofs.Ytjoaccnfnniahaa

namespace Go.Proofs.Ytjoaccnfnniahaa
open Go.Sy
set_option linter.unusedSimpArgs false
set_option linter.unusedVariables false

def mHead (i t : Int) (n : Nat) : ByteArray := (⟨#[]⟩ : ByteArray) ++ numB (3 : Int).toNat ++ numB (1 : Int).toNat ++ numB i.toNat ++ numB t.toNat ++ numB (0 : Int).toNat ++ numB ((n : Nat) : Int).toNat
def msgTo (i t : Int) (s : List Ent) : Nat → ByteArray
  | 0 => mHead i t s.length
  | k + 1 => msgTo i t s k ++ textB (entB (s.getD k ent0))
def msgB (i t : Int) (s : List Ent) : ByteArray := msgTo i t s s.length
theorem entB_size {e : Ent} (h : entOk e = true) (h1 : U64 e.index) (h2 : U64 e.term) : (entB e).size ≤ 4300 := by
  obtain ⟨hfi, hfd, hk1, hk3, hfl, hfm⟩ := ent_fit h
  have hkU : U64 e.kind := by unfold U64; omega
  have hg1 := kby_le (u64_nat h1).2
  have hg2 := kby_le (u64_nat h2).2
  have hg3 := kby_le (u64_nat hkU).2
  have hg4 := kby_le (n := e.data.size) (by omega)
  have hg5 := ints_size hfm (by omega) e.members.length (Nat.le_refl _)
  replace hg5 : (intsB e.members).size ≤ 9 * (e.members.length + 1) ∧ 0 < (intsB e.members).size := hg5
  unfold entB
  simp only [ByteArray.size_append, numB_size, textB_size]; omega
theorem msg_size {i t : Int} (hi : U64 i) (ht : U64 t) {s : List Ent} (hs : ∀ e ∈ s, entOk e = true ∧ U64 e.index ∧ U64 e.term) (hL : s.length ≤ 8) : ∀ k, k ≤ s.length → (msgTo i t s k).size ≤ 100 + 4400 * k ∧ 0 < (msgTo i t s k).size
  | 0, _ => by
    have hg1 := kby_le (u64_nat hi).2
    have hg2 := kby_le (u64_nat ht).2
    have hg3 := kby_le (n := (3 : Int).toNat) (by decide)
    have hg4 := kby_le (n := (1 : Int).toNat) (by decide)
    have hg5 := kby_le (n := (0 : Int).toNat) (by decide)
    have hg6 := kby_le (n := ((s.length : Nat) : Int).toNat) (by omega)
    unfold msgTo mHead
    simp only [ByteArray.size_append, numB_size, empty_size]; omega
  | k + 1, hk => by
    have ih := msg_size hi ht hs hL k (by omega)
    obtain ⟨g1, g2, g3⟩ := hs s[k] (List.getElem_mem _)
    have h2 := entB_size g1 g2 g3
    have h3 := kby_le (n := (entB s[k]).size) (by omega)
    unfold msgTo
    rw [List.getD_eq_getElem?_getD, List.getElem?_eq_getElem (show k < s.length by omega)]
    simp only [Option.getD_some, ByteArray.size_append, textB_size]
    omega
theorem msg_step {i t : Int} {s : List Ent} {k : Nat} (hk : k < s.length) : msgTo i t s (k + 1) = msgTo i t s k ++ textB (entB s[k]) := by
  rw [msgTo, List.getD_eq_getElem?_getD, List.getElem?_eq_getElem hk]; rfl

set_option maxHeartbeats 8000000 in
set_option maxRecDepth 20000 in
theorem mBytes_ok {I : Imm} {O : Own} {i t : Int} {v : Value} {s : List Ent} (hs : EntsR I v s) (hi : U64 i) (ht : U64 t) (hu : ∀ e ∈ s, entOk e = true ∧ U64 e.index ∧ U64 e.term) (hL : s.length ≤ 8) :
    Pure Try.prog 31 [.agg ⟨msgV i t v⟩] I O (.string (msgB i t s)) := by
  have hs0 := hs
  obtain ⟨ea, ec, rfl, hs1, hs2, -⟩ := hs
  have hz0 := msg_size hi ht hu hL 0 (Nat.zero_le _)
  unfold msgTo mHead at hz0
  simp only [ByteArray.size_append, numB_size, empty_size] at hz0
  refine Go.Sy.Does.enter Try.func31 rfl Try.ntmps31 rfl ?_
  refine .seq <| .region <| .on rfl <| .box rfl rfl rfl fun c1 _ _ => .e (.assign rfl) rfl rfl <| .nil <| .go ?_
  refine .seq <| .region <| .e (.build bs107 zv107 rfl rfl) rfl rfl <| .on rfl <| .box rfl rfl rfl fun c2 _ _ => .e (.assign rfl) rfl rfl <| .nil ?_
  refine .go <| .seq <| .region <| .e (.move rfl) rfl rfl <| .e (.fieldAddr fo54_0 rfl) rfl rfl <| .e (.load ag50 rfl (.there <| .here) rfl) rfl rfl ?_
  refine .e ((EV.cast (u := .int .u64 3) (.conv Try.underlying50 Try.underlying40 rfl) rfl)) rfl rfl <| .e (.fieldAddr fo54_1 rfl) rfl rfl <| .e (.load ag40 rfl (.there <| .here) rfl) rfl rfl <| .on rfl <| .buildSlice Try.underlying130 sz40 (by decide) (by decide) zv40 rfl rfl rfl rfl rfl fun c3 _ _ => ?_
  refine .front1 (.there <| .here) ?_
  refine .on rfl <| .call cal48 rfl rfl rfl (mNumbers2_ok (a := 3) (b := 1) (by unfold U64; omega) (by unfold U64; omega) BldM.new (by decide)) fun v15 I15 O15 hI15 hK15 => ?_
  obtain ⟨rfl, hq15, ob15, hB15, rfl⟩ := hK15
  replace hq15 := hq15.symm
  subst hq15
  refine .nil <| .go <| .seq <| .seq <| .region <| .e (.fieldAddr fo54_0 rfl) rfl rfl ?_
  refine .e (.load ag50 rfl (.app <| .here) rfl) rfl rfl <| .nil <| .go <| .block <| .seq <| .region ?_
  refine .e (.eql rfl rfl) rfl rfl <| .e (.assign rfl) rfl rfl <| .nil <| .go <| .cond_false rfl <| .seq ?_
  refine .region <| .e (.eql rfl rfl) rfl rfl <| .e (.assign rfl) rfl rfl <| .nil <| .go <| .cond_false rfl ?_
  refine .seq <| .region <| .e (.eql rfl rfl) rfl rfl <| .e (.assign rfl) rfl rfl <| .nil <| .go ?_
  refine .cond_true rfl <| .seq <| .region <| .e (.move rfl) rfl rfl <| .e (.fieldAddr fo54_2 rfl) rfl rfl <| .e (.load ag40 rfl (.app <| .here) rfl) rfl rfl ?_
  refine .e (.fieldAddr fo54_3 rfl) rfl rfl <| .e (.load ag40 rfl (.app <| .here) rfl) rfl rfl <| .e (.fieldAddr fo54_4 rfl) rfl rfl <| .e (.load ag40 rfl (.app <| .here) rfl) rfl rfl <| .e (.fieldAddr fo54_6 rfl) rfl rfl <| .e (.load ag41 rfl (.app <| .here) rfl) rfl rfl ?_
  refine .e (.len sl41 rfl rfl) rfl rfl <| .e ((EV.cast (.conv Try.underlying3 Try.underlying40 rfl) (congrArg (Value.int .u64) (IntWalk.u64_in ((s.length : Nat) : Int) (by omega))))) rfl rfl <| .on rfl <| .buildSlice Try.underlying130 sz40 (by decide) (by decide) zv40 rfl rfl rfl rfl rfl fun c4 _ _ => ?_
  refine .front (.there <| .front) ?_
  refine .on rfl <| .call cal48 rfl rfl rfl (mNumbers4_ok (a := i) (b := t) (d := 0) (e := (s.length : Nat)) hi ht (by unfold U64; omega) (by unfold U64; omega) hB15 (by simp only [ByteArray.size_append, numB_size, empty_size]; omega)) fun v49 I49 O49 hI49 hK49 => ?_
  obtain ⟨rfl, hq49, ob49, hB49, rfl⟩ := hK49
  replace hq49 := hq49.symm
  subst hq49
  refine .nil <| .go <| .seq <| .region <| .e (.fieldAddr fo54_6 rfl) rfl rfl <| .e (.load ag41 rfl (.app <| .here) rfl) rfl rfl ?_
  refine .e (.len sl41 rfl rfl) rfl rfl <| .e (.move rfl) rfl rfl <| .nil <| .go <| .block ?_
  refine .loopM [5, 53, 54, 55, 56, 57, 58, 59, 60, 61, 62] (fun q => s.length - q.1) (fun q => q.1 ≤ s.length ∧ BldM c2 (msgTo i t s q.1) q.2) (fun q => [(53, .int .i64 q.1)]) (fun _ => _) (fun q => q.2 ++ _) (((0, ob49) : Nat × Own)) ⟨Nat.zero_le _, (show BldM c2 (msgTo i t s 0) ob49 from hB49)⟩ ⟨rfl, trivial⟩ rfl rfl ?_
  intro ⟨k, obW⟩ hk
  dsimp only at hk ⊢
  obtain ⟨hkl, hBW⟩ := hk
  have hsz := msg_size hi ht hu hL k hkl
  refine .seq <| .region <| .e (.lss rfl rfl) rfl rfl <| .nil <| .go <| .seq ?_
  refine .split 54 rfl (fun h54 => ?_) (fun h54 => ?_)
  · skip
    replace h54 := of_decide_eq_true h54
    refine .cond_true rfl <| .skip <| .go <| .seq <| .block <| .seq ?_
    refine .region ?_
    obtain ⟨eb55, eo55, cs55, hd55, hat55, hr55⟩ := SlR.at_ hs0 (k := k) (by omega)
    cases hd55
    have he55 := hr55
    obtain ⟨mv55, rfl, hmv55⟩ := hr55.ex
    obtain ⟨_, _, rfl, -⟩ := hmv55
    have huk := hu s[k] (List.getElem_mem _)
    have hez := entB_size huk.1 huk.2.1 huk.2.2
    refine .e (.indexAddrL sl41 rfl rfl rfl (by omega)) rfl rfl <| .e (.loadIA ag77 sz77 rfl hat55 rfl) rfl rfl <| .on rfl <| .alloc zr77 rfl fun c5 _ _ => .on rfl <| .storeW sz77 rfl rfl rfl rfl rfl rfl .here <| .nil <| .go ?_
    refine .region <| .e (.move rfl) rfl rfl <| .e (.loadW ag77 sz77 rfl .here rfl) rfl rfl <| .on rfl <| .callP cal51 rfl rfl rfl (eBytes_ok he55 huk.1) <| .on rfl <| .buildSlice Try.underlying22 sz9 (by decide) (by decide) zv9 rfl rfl rfl rfl rfl fun c6 _ _ => ?_
    refine .front (.there <| .there <| .front) ?_
    refine .on rfl <| .call cal50 rfl rfl rfl (mTexts_ok (by omega) hBW (by omega)) fun v61 I61 O61 hI61 hK61 => ?_
    obtain ⟨rfl, hq61, ob61, hB61, rfl⟩ := hK61
    replace hq61 := hq61.symm
    subst hq61
    refine .nil <| .blk_normal <| .go <| .region <| .e (.add rfl rfl (by first | exact wrap_succ (by omega) | exact IntWalk.i64_in _ (by omega) | exact rfl)) rfl rfl <| .e (.move rfl) rfl rfl ?_
    refine .nil ?_
    refine .front1 (.app <| .here) ?_
    refine .tail ?_
    have hBN : BldM c2 (msgTo i t s (k + 1)) ob61 := by rw [msg_step (show k < s.length by omega)]; exact hB61
    exact .mid ((k + 1, _)) ⟨by dsimp only; omega, by dsimp only; omega, hBN⟩ ⟨rfl, trivial⟩ rfl rfl (.pre 12 rfl (.app rfl .base))
  · skip
    replace h54 := of_decide_eq_false h54
    refine .cond_false rfl <| .exit <| .exit <| .exit <| .blk_exit <| .blk_normal ?_
    refine .go <| .seq <| .region <| .e (.move rfl) rfl rfl <| .e (.nilCheck rfl) rfl rfl <| .e (.fieldAddr fo107_0 rfl) rfl rfl ?_
    refine .on rfl <| .call cal53 rfl rfl rfl (bstrM_ok hBW (by omega)) fun v84 I84 O84 hI84 hK84 => ?_
    obtain ⟨rfl, hq84, rfl⟩ := hK84
    replace hq84 := hq84.symm
    subst hq84
    refine .e (.assign rfl) rfl rfl <| .nil <| .go <| .ret ?_
    refine .tail ?_
    refine Post.retE rfl rfl ?_
    have ek : k = s.length := by omega
    subst ek
    rfl

end Go.Proofs.Ytjoaccnfnniahaa

namespace Go.Proofs.Ytjoaccnfnniahaa
open Go.Sy
set_option linter.unusedSimpArgs false
set_option linter.unusedVariables false

theorem goodM.each {i : Int} {s : List Ent} (hg : goodM i s) (hu : ∀ e ∈ s, U64 e.term) : ∀ e ∈ s, entOk e = true ∧ U64 e.index ∧ U64 e.term := by
  intro e he
  obtain ⟨k, hk, rfl⟩ := List.mem_iff_getElem.1 he
  obtain ⟨h1, h2⟩ := hg.2.2.2 k hk
  have h3 := hg.1
  have h4 := hg.2.1
  exact ⟨h1, by unfold U64; omega, hu _ he⟩
theorem goodM.at_ {i : Int} {s : List Ent} (hg : goodM i s) : U64 i := by
  have h3 := hg.1
  have h4 := hg.2.1
  unfold U64; omega

set_option maxHeartbeats 1000000 in
set_option maxRecDepth 20000 in
theorem mEncode_ok {I : Imm} {O : Own} {i t : Int} {v : Value} {s : List Ent} (hs : EntsR I v s) (hg : goodM i s) (ht : U64 t) (hu : ∀ e ∈ s, U64 e.term) :
    Pure Try.prog 15 [.agg ⟨msgV i t v⟩] I O (.tuple ⟨[.string (frameB (msgB i t s)), .int .i64 0]⟩) := by
  have hs0 := hs
  obtain ⟨ea, ec, rfl, hs1, hs2, -⟩ := hs
  have hz := msg_size hg.at_ ht (hg.each hu) hg.2.2.1 s.length (Nat.le_refl _)
  replace hz : (msgB i t s).size ≤ 100 + 4400 * s.length ∧ 0 < (msgB i t s).size := hz
  have hl8 := hg.2.2.1
  refine Go.Sy.Does.enter Try.func15 rfl Try.ntmps15 rfl ?_
  refine .seq <| .region <| .on rfl <| .box rfl rfl rfl fun c1 _ _ => .e (.assign rfl) rfl rfl <| .e (.assign rfl) rfl rfl <| .nil ?_
  refine .go <| .seq <| .seq <| .region <| .e (.loadW ag54 sz54 rfl .here rfl) rfl rfl <| .on rfl <| .callP cal30 rfl rfl rfl (mCheck_ok hs0 hg) ?_
  refine .e (.assign rfl) rfl rfl <| .nil <| .go <| .seq <| .region <| .e (.move rfl) rfl rfl ?_
  refine .e (.neq rfl rfl) rfl rfl <| .nil <| .go <| .cond_false rfl <| .skip <| .go ?_
  refine .seq <| .region <| .e (.loadW ag54 sz54 rfl .here rfl) rfl rfl <| .on rfl <| .callP cal31 rfl rfl rfl (mBytes_ok hs0 hg.at_ ht (hg.each hu) hl8) <| .on rfl <| .callP cal6 rfl rfl rfl ((Frame_ok (p := msgB i t s) (by unfold StrOk; omega)).cast (congrArg (fun p : ByteArray × Int => Value.tuple ⟨[.string p.1, .int .i64 p.2]⟩) (frameR_ok (p := msgB i t s) (by omega)))) <| .e (.extract rfl rfl) rfl rfl ?_
  refine .e (.extract rfl rfl) rfl rfl <| .e (.assign rfl) rfl rfl <| .e (.assign rfl) rfl rfl <| .nil <| .go <| .ret ?_
  refine Post.retsE rfl (.tmp rfl (.tmp rfl .nil)) rfl (fun w h => h.tail) ?_
  rfl

end Go.Proofs.Ytjoaccnfnniahaa
