/- Walks of functions over a symbolic memory, printed by a program of the session. -/
import Derived.Test.YtjoaccnfnniahaaDe
import Derived.Test.YtjoaccnfnniahaaDf
import Derived.Test.YtjoaccnfnniahaaDh
import Derived.Test.YtjoaccnfnniahaaPb
namespace Go.Proofs.Ytjoaccnfnniahaa
open Go.Sy
set_option linter.unusedSimpArgs false
set_option linter.unusedVariables false

theorem frzD {f : FuncId} {vs : List Value} {I : Imm} {O : Own} {D : Dsk} {e : Int} (h : Go.Sy.Does Try.prog f vs I O fun u I' O' => ∃ v ws ob, u = .tuple ⟨[.agg ⟨D.cells v⟩, .int .i64 e]⟩ ∧ OwnS 3 v D.files.length ws ob ∧ DR FilR 3 I' ws D.files ∧ O' = ob ++ O) (hF : I64 D.fuse) :
    Go.Sy.Does Try.prog f vs I O fun u I' O' => O' = O ∧ ∃ v, u = .tuple ⟨[.agg ⟨D.cells v⟩, .int .i64 e]⟩ ∧ DskR I' (D.cells v) D := fun w hw => (h w hw).mono fun en w' ⟨u, I', O', he, hI, hs, v, ws, ob, hu, ho, hd, hO⟩ => by
  subst hO
  obtain ⟨J, hJ, r, s1⟩ := frzS ho hs
  exact ⟨u, J, O, he, Imm.le_trans hI hJ, s1, rfl, v, hu, ⟨_, rfl, r (R := FilR) (hd.mono fun _ _ h => h) rfl⟩, hF⟩
theorem add_fuse {d : Dsk} {s x : ByteArray} (h : I64 d.fuse) : I64 (addR d s x).1.fuse := by
  unfold addR I64 at *
  repeat' split
  all_goals dsimp only
  all_goals first | exact h | omega
theorem sync_fuse {d : Dsk} {s : ByteArray} (h : I64 d.fuse) : I64 (syncR d s).1.fuse := by
  unfold syncR I64 at *
  repeat' split
  all_goals dsimp only
  all_goals first | exact h | omega
theorem crash_fuse {d : Dsk} {ks : List Int} : I64 (crashR d ks).1.fuse := by
  unfold crashR I64
  split
  all_goals dsimp only
  all_goals omega
theorem dAddF {I : Imm} {O : Own} {dc : List Value} {d D : Dsk} {e : Int} (hd : DskR I dc d) (hsm : d.files.length ≤ 1000) {s x : ByteArray} (hsS : StrOk s) (hx : StrOk x) (hsz : ∀ f ∈ d.files, StrOk (f.data ++ x)) (h : addR d s x = (D, e)) :
    Go.Sy.Does Try.prog 20 [.agg ⟨dc⟩, .agg ⟨[.int .u8 0, .string s, .string ⟨#[]⟩, .string x, .int .i64 0]⟩] I O fun u I' O' => O' = O ∧ ∃ v, u = .tuple ⟨[.agg ⟨D.cells v⟩, .int .i64 e]⟩ ∧ DskR I' (D.cells v) D := by
  have h1 := frzD (ddone0_ok (O := O) hd hsm hsS hx hsz) (add_fuse hd.fuse)
  rw [h] at h1; exact h1
theorem dSyncF {I : Imm} {O : Own} {dc : List Value} {d D : Dsk} {e : Int} (hd : DskR I dc d) (hsm : d.files.length ≤ 1000) {s : ByteArray} (hsS : StrOk s) (h : syncR d s = (D, e)) :
    Go.Sy.Does Try.prog 20 [.agg ⟨dc⟩, .agg ⟨[.int .u8 1, .string s, .string ⟨#[]⟩, .string ⟨#[]⟩, .int .i64 0]⟩] I O fun u I' O' => O' = O ∧ ∃ v, u = .tuple ⟨[.agg ⟨D.cells v⟩, .int .i64 e]⟩ ∧ DskR I' (D.cells v) D := by
  have h1 := frzD (ddone1_ok (O := O) hd hsm hsS) (sync_fuse hd.fuse)
  rw [h] at h1; exact h1
theorem dCrashF {I : Imm} {O : Own} {dc : List Value} {d D : Dsk} {e : Int} (hd : DskR I dc d) (hsm : d.files.length ≤ 1000) {kv : Value} {ks : List Int} (hks : IntsR I kv ks) (h : crashR d ks = (D, e)) :
    Go.Sy.Does Try.prog 9 [.agg ⟨dc⟩, kv] I O fun u I' O' => O' = O ∧ ∃ v, u = .tuple ⟨[.agg ⟨D.cells v⟩, .int .i64 e]⟩ ∧ DskR I' (D.cells v) D := by
  have h1 := frzD (dCrash_ok (O := O) hd hsm hks) crash_fuse
  rw [h] at h1; exact h1

set_option maxHeartbeats 1000000 in
set_option maxRecDepth 20000 in
theorem dAdd_ok {I : Imm} {O : Own} {dc : List Value} {d : Dsk} (hd : DskR I dc d) {D : Dsk} {e : Int} (hsm : d.files.length ≤ 1000) {s x : ByteArray} (hsS : StrOk s) (hx : StrOk x) (hsz : ∀ f ∈ d.files, StrOk (f.data ++ x)) (h : addR d s x = (D, e)) :
    Go.Sy.Does Try.prog 7 [.agg ⟨dc⟩, .string s, .string x] I O (fun u I' O' => O' = O ∧ ∃ v, u = .tuple ⟨[.agg ⟨D.cells v⟩, .int .i64 e]⟩ ∧ DskR I' (D.cells v) D) := by
  have hd0 := hd
  obtain ⟨fv, rfl, hfv⟩ := hd.ex
  have hfv0 := hfv
  obtain ⟨fa, fcap, rfl, hf1, hf2, -⟩ := hfv
  have hfz := hd0.fuse
  refine Go.Sy.Does.enter Try.func7 rfl Try.ntmps7 rfl ?_
  refine .seq <| .region <| .on rfl <| .box rfl rfl rfl fun c1 _ _ => .on rfl <| .alloc zr28 rfl fun c2 _ _ => .e (.assign rfl) rfl rfl <| .nil ?_
  refine .go <| .seq <| .region <| .e (.loadW ag28 sz28 rfl (.there <| .here) rfl) rfl rfl <| .e (.move rfl) rfl rfl <| .e (.move rfl) rfl rfl ?_
  refine .e (.build bs66 zv66 rfl rfl) rfl rfl <| .on rfl <| .call cal20 rfl rfl rfl (dAddF hd0 hsm hsS hx hsz h) fun v12 I12 O12 hI12 hK12 => ?_
  obtain ⟨rfl, fv12, rfl, hf12⟩ := hK12
  obtain ⟨fw12, ew12, hw12⟩ := hf12.ex
  obtain ⟨fa12, fc12, rfl, -, -, -⟩ := hw12
  cases ew12
  have hf := hf12
  refine .e (.extract rfl rfl) rfl rfl <| .e (.extract rfl rfl) rfl rfl <| .on rfl <| .storeW sz28 rfl rfl rfl rfl rfl rfl .here <| .e (.assign rfl) rfl rfl <| .nil <| .go ?_
  refine .ret ?_
  refine Post.rets rfl (.agg rfl ag28 sz28 .here rfl (.tmp rfl .nil)) rfl hI12 (fun w h => (Sat.tail (Sat.tail h))) ?_
  exact ⟨rfl, _, rfl, hf⟩

set_option maxHeartbeats 1000000 in
set_option maxRecDepth 20000 in
theorem dSync_ok {I : Imm} {O : Own} {dc : List Value} {d : Dsk} (hd : DskR I dc d) {D : Dsk} {e : Int} (hsm : d.files.length ≤ 1000) {s : ByteArray} (hsS : StrOk s) (h : syncR d s = (D, e)) :
    Go.Sy.Does Try.prog 8 [.agg ⟨dc⟩, .string s] I O (fun u I' O' => O' = O ∧ ∃ v, u = .tuple ⟨[.agg ⟨D.cells v⟩, .int .i64 e]⟩ ∧ DskR I' (D.cells v) D) := by
  have hd0 := hd
  obtain ⟨fv, rfl, hfv⟩ := hd.ex
  have hfv0 := hfv
  obtain ⟨fa, fcap, rfl, hf1, hf2, -⟩ := hfv
  have hfz := hd0.fuse
  refine Go.Sy.Does.enter Try.func8 rfl Try.ntmps8 rfl ?_
  refine .seq <| .region <| .on rfl <| .box rfl rfl rfl fun c1 _ _ => .on rfl <| .alloc zr28 rfl fun c2 _ _ => .e (.assign rfl) rfl rfl <| .nil ?_
  refine .go <| .seq <| .region <| .e (.loadW ag28 sz28 rfl (.there <| .here) rfl) rfl rfl <| .e (.move rfl) rfl rfl <| .e (.build bs66 zv66 rfl rfl) rfl rfl ?_
  refine .on rfl <| .call cal20 rfl rfl rfl (dSyncF hd0 hsm hsS h) fun v9 I9 O9 hI9 hK9 => ?_
  obtain ⟨rfl, fv9, rfl, hf9⟩ := hK9
  obtain ⟨fw9, ew9, hw9⟩ := hf9.ex
  obtain ⟨fa9, fc9, rfl, -, -, -⟩ := hw9
  cases ew9
  have hf := hf9
  refine .e (.extract rfl rfl) rfl rfl <| .e (.extract rfl rfl) rfl rfl <| .on rfl <| .storeW sz28 rfl rfl rfl rfl rfl rfl .here <| .e (.assign rfl) rfl rfl <| .nil <| .go ?_
  refine .ret ?_
  refine Post.rets rfl (.agg rfl ag28 sz28 .here rfl (.tmp rfl .nil)) rfl hI9 (fun w h => (Sat.tail (Sat.tail h))) ?_
  exact ⟨rfl, _, rfl, hf⟩

theorem dn0 {I : Imm} : DskR I ((⟨[], false, -1⟩ : Dsk).cells (.slice none 0 0)) ⟨[], false, -1⟩ := ⟨⟨_, rfl, SlR.nil⟩, show -9223372036854775808 ≤ (-1 : Int) ∧ (-1 : Int) ≤ 9223372036854775807 by decide⟩
theorem add_a : addR ⟨[], false, -1⟩ ⟨#[97]⟩ ⟨#[120]⟩ = (⟨[⟨⟨#[97]⟩, ⟨#[120]⟩, 0⟩], false, -1⟩, 0) := add_nil (by decide)
theorem read_a : readR ⟨[⟨⟨#[97]⟩, ⟨#[120]⟩, 0⟩], false, -1⟩ ⟨#[97]⟩ = (⟨#[120]⟩, 0) := by
  have ha : askedR ⟨[⟨⟨#[97]⟩, ⟨#[120]⟩, 0⟩], false, -1⟩ = 0 := by unfold askedR; rw [if_pos (why_one (by decide) (by decide))]; rfl
  unfold readR
  rw [if_pos ha, if_pos has_one, pos_one]; rfl

set_option maxHeartbeats 1000000 in
set_option maxRecDepth 20000 in
theorem begins_ok {I : Imm} {O : Own}  :
    Pure Try.prog 5 [] I O (.bool true) := by
  refine Go.Sy.Does.enter Try.func5 rfl Try.ntmps5 rfl ?_
  refine .seq <| .region <| .e (.assign rfl) rfl rfl <| .nil <| .go <| .seq ?_
  refine .region <| .e (.build bs28 zv28 rfl rfl) rfl rfl <| .on rfl <| .call cal7 rfl rfl rfl (dAdd_ok dn0 (by decide) (show (1 : Nat) ≤ _ by decide) (show (1 : Nat) ≤ _ by decide) (fun f hf => absurd hf List.not_mem_nil) add_a) fun v7 I7 O7 hI7 hK7 => ?_
  obtain ⟨rfl, fv7, rfl, hf7⟩ := hK7
  obtain ⟨fw7, ew7, hw7⟩ := hf7.ex
  obtain ⟨fa7, fc7, rfl, -, -, -⟩ := hw7
  cases ew7
  have hf := hf7
  refine .e (.move rfl) rfl rfl <| .e (.extract rfl rfl) rfl rfl <| .e (.extract rfl rfl) rfl rfl <| .on rfl <| .alloc zr28 rfl fun c1 _ _ => .on rfl <| .storeW sz28 rfl rfl rfl rfl rfl rfl .here <| .e (.assign rfl) rfl rfl ?_
  refine .nil <| .go <| .seq <| .region <| .e (.loadW ag28 sz28 rfl .here rfl) rfl rfl <| .on rfl <| .callP cal10 rfl rfl rfl ((dRead_ok hf).cast (congrArg rdV read_a)) ?_
  refine .e (.move rfl) rfl rfl <| .e (.extract rfl rfl) rfl rfl <| .e (.extract rfl rfl) rfl rfl <| .e (.assign rfl) rfl rfl <| .e (.assign rfl) rfl rfl <| .nil ?_
  refine .go <| .seq <| .region <| .on rfl <| .callP cal18 rfl rfl rfl ((sum_ok (by decide)).cast (congrArg (Value.int .u16) sum_ten)) <| .e (.eql rfl rfl) rfl rfl <| .e (.move rfl) rfl rfl ?_
  refine .e (.move rfl) rfl rfl <| .e (.eql rfl rfl) rfl rfl <| .e (.pickT rfl rfl) rfl rfl <| .e (.move rfl) rfl rfl <| .e (.move rfl) rfl rfl <| .e (.eql rfl rfl) rfl rfl ?_
  refine .e (.pickT rfl rfl) rfl rfl <| .e (.move rfl) rfl rfl <| .e (.move rfl) rfl rfl <| .e ((EV.cast (u := .bool true) (.streq rfl rfl) (congrArg Value.bool (by decide)))) rfl rfl <| .e (.pickT rfl rfl) rfl rfl <| .e (.assign rfl) rfl rfl ?_
  refine .nil <| .go <| .ret ?_
  refine .tail ?_
  refine .back hI7 ?_
  refine Post.retE rfl rfl ?_
  rfl

end Go.Proofs.Ytjoaccnfnniahaa
