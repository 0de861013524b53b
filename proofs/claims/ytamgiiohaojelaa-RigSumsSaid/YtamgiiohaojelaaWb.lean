/- Walks of functions over a symbolic memory, printed by a program of the session. -/
import Derived.Test.YtamgiiohaojelaaWa
namespace Go.Proofs.Ytamgiiohaojelaa
open Go.Sy
set_option linter.unusedSimpArgs false
set_option linter.unusedVariables false

def suits (t : Tsk) (n : Nod) : Bool := within t.wants n.labels && within n.taints t.bears
def zone : Pr := ⟨⟨#[122, 111, 110, 101]⟩, ⟨#[97]⟩⟩
theorem nod0_R {J : Imm} : NodR J [.string ⟨#[]⟩, .int .i64 0, .int .i64 0, .int .i64 0, .slice none 0 0, .slice none 0 0] node0 := ⟨⟨_, _, rfl, prsNil, prsNil⟩, strOk_nil, a3_0⟩
theorem zone_R {J : Imm} {b : Nat} {T : TypeId} {fz : Nat × Nat} (h : J b = some (.cells ⟨[.string ⟨#[122, 111, 110, 101]⟩, .string ⟨#[97]⟩]⟩ T fz)) : PrsR J (.slice (some ⟨b, 0, none⟩) 1 1) [zone] :=
  SlR.ofRow h (DR.single rfl ⟨rfl, by unfold StrOk zone; decide, by unfold StrOk zone; decide⟩) rfl (by decide) (by decide)

set_option maxHeartbeats 1000000 in
set_option maxRecDepth 20000 in
theorem Suits_ok {I : Imm} {O : Own} {tc nc : List Value} {t : Tsk} {n : Nod} (ht : TskR I tc t) (hn : NodR I nc n) :
    Pure Try.prog 14 [.agg ⟨tc⟩, .agg ⟨nc⟩] I O (.bool (suits t n)) := by
  obtain ⟨tw, tb, rfl, htw, htb⟩ := ht.ex
  obtain ⟨nl, nt, rfl, hnl, hnt⟩ := hn.ex
  refine Does.enter Try.func14 rfl Try.ntmps14 rfl ?_
  refine .seq <| .region <| .on rfl <| .box rfl rfl rfl fun c1 _ _ => .on rfl <| .box rfl rfl rfl fun c2 _ _ => .e (.assign rfl) rfl rfl <| .nil ?_
  refine .go <| .seq <| .region <| .e (.fieldAddr fo25_2 rfl) rfl rfl <| .e (.load ag23 rfl (.there <| .here) rfl) rfl rfl <| .e (.fieldAddr fo30_2 rfl) rfl rfl ?_
  refine .e (.load ag23 rfl .here rfl) rfl rfl <| .on rfl <| .callP cal22 rfl rfl rfl (within_ok htw hnl) <| .e (.move rfl) rfl rfl ?_
  refine .split 10 rfl (fun h10 => ?_) (fun h10 => ?_)
  · skip
    refine .e (.fieldAddr fo30_3 rfl) rfl rfl <| .e (.load ag23 rfl .here rfl) rfl rfl <| .e (.fieldAddr fo25_3 rfl) rfl rfl <| .e (.load ag23 rfl (.there <| .here) rfl) rfl rfl <| .on rfl <| .callP cal22 rfl rfl rfl (within_ok hnt htb) <| .e (.pickT rfl rfl) rfl rfl ?_
    refine .e (.assign rfl) rfl rfl <| .nil <| .go <| .ret ?_
    refine .tail <| .tail ?_
    refine Post.retE rfl rfl ?_
    simp_all [suits]
  · skip
    refine .off rfl rfl <| .off rfl rfl <| .off rfl rfl <| .off rfl rfl <| .off rfl rfl <| .e (.pickF rfl rfl) rfl rfl ?_
    refine .e (.assign rfl) rfl rfl <| .nil <| .go <| .ret ?_
    refine .tail <| .tail ?_
    refine Post.retE rfl rfl ?_
    simp_all [suits]

set_option maxHeartbeats 1000000 in
set_option maxRecDepth 20000 in
theorem rSuits_ok {I : Imm} {O : Own} {tc nc : List Value} {t : Tsk} {n : Nod} (ht : TskR I tc t) (hn : NodR I nc n) :
    Pure Try.prog 15 [.agg ⟨tc⟩, .agg ⟨nc⟩] I O (.bool (suits t n)) := by
  obtain ⟨tw, tb, rfl, htw, htb⟩ := ht.ex
  obtain ⟨nl, nt, rfl, hnl, hnt⟩ := hn.ex
  refine Does.enter Try.func15 rfl Try.ntmps15 rfl ?_
  refine .seq <| .region <| .on rfl <| .box rfl rfl rfl fun c1 _ _ => .on rfl <| .box rfl rfl rfl fun c2 _ _ => .e (.assign rfl) rfl rfl <| .nil ?_
  refine .go <| .seq <| .region <| .e (.fieldAddr fo25_2 rfl) rfl rfl <| .e (.load ag23 rfl (.there <| .here) rfl) rfl rfl <| .e (.fieldAddr fo30_2 rfl) rfl rfl ?_
  refine .e (.load ag23 rfl .here rfl) rfl rfl <| .on rfl <| .callP cal23 rfl rfl rfl (rwithin_ok htw hnl) <| .e (.move rfl) rfl rfl ?_
  refine .split 10 rfl (fun h10 => ?_) (fun h10 => ?_)
  · skip
    refine .e (.fieldAddr fo30_3 rfl) rfl rfl <| .e (.load ag23 rfl .here rfl) rfl rfl <| .e (.fieldAddr fo25_3 rfl) rfl rfl <| .e (.load ag23 rfl (.there <| .here) rfl) rfl rfl <| .on rfl <| .callP cal23 rfl rfl rfl (rwithin_ok hnt htb) <| .e (.pickT rfl rfl) rfl rfl ?_
    refine .e (.assign rfl) rfl rfl <| .nil <| .go <| .ret ?_
    refine .tail <| .tail ?_
    refine Post.retE rfl rfl ?_
    simp_all [suits]
  · skip
    refine .off rfl rfl <| .off rfl rfl <| .off rfl rfl <| .off rfl rfl <| .off rfl rfl <| .e (.pickF rfl rfl) rfl rfl ?_
    refine .e (.assign rfl) rfl rfl <| .nil <| .go <| .ret ?_
    refine .tail <| .tail ?_
    refine Post.retE rfl rfl ?_
    simp_all [suits]

set_option maxHeartbeats 1000000 in
set_option maxRecDepth 20000 in
theorem suits_ok {I : Imm} {O : Own}  :
    Pure Try.prog 13 [] I O (.bool true) := by
  refine Does.enter Try.func13 rfl Try.ntmps13 rfl ?_
  refine .seq <| .region <| .e (.assign rfl) rfl rfl <| .nil <| .go <| .seq ?_
  refine .region <| .e (.build bs34 zv34 rfl rfl) rfl rfl <| .on rfl <| .buildSlice Try.underlying23 sz34 (by decide) (by decide) zv34 rfl rfl rfl rfl rfl fun c1 _ _ => .e (.assign rfl) rfl rfl <| .nil <| .go ?_
  refine .seq <| .region ?_
  refine .freeze fun J hJ hJb => ?_
  refine .e (.move rfl) rfl rfl <| .e (.build bs25 zv25 rfl rfl) rfl rfl <| .e (.move rfl) rfl rfl <| .e (.build bs30 zv30 rfl rfl) rfl rfl <| .on rfl <| .callP cal14 rfl rfl rfl ((Suits_ok (t := { task0 with wants := [zone] }) (n := { node0 with labels := [zone] }) ⟨⟨_, _, rfl, zone_R hJb, prsNil⟩, strOk_nil, a3_0, strOk_nil, strOk_nil, i64_0⟩ ⟨⟨_, _, rfl, zone_R hJb, prsNil⟩, strOk_nil, a3_0⟩).castT (by decide)) <| .e (.move rfl) rfl rfl ?_
  refine .e (.build bs25 zv25 rfl rfl) rfl rfl <| .e (.move rfl) rfl rfl <| .e (.build bs30 zv30 rfl rfl) rfl rfl <| .on rfl <| .callP cal14 rfl rfl rfl ((Suits_ok (t := task0) (n := { node0 with taints := [zone] }) task0_R ⟨⟨_, _, rfl, prsNil, zone_R hJb⟩, strOk_nil, a3_0⟩).castF (by decide)) <| .e (.not rfl) rfl rfl <| .e (.pickT rfl rfl) rfl rfl ?_
  refine .e (.assign rfl) rfl rfl <| .nil <| .go <| .ret ?_
  refine .back hJ ?_
  refine Post.retE rfl rfl ?_
  rfl

set_option maxHeartbeats 1000000 in
set_option maxRecDepth 20000 in
theorem RigBears_ok {I : Imm} {O : Own} {ac bc : List Value} {a b : Tsk} (ha : TskR I ac a) (hb : TskR I bc b) :
    Pure Try.prog 3 [.agg ⟨ac⟩, .agg ⟨bc⟩] I O (.bool true) := by
  obtain ⟨aw, ab, rfl, haw, hab⟩ := ha.ex
  obtain ⟨bw, bb, rfl, hbw, hbb⟩ := hb.ex
  refine Does.enter Try.func3 rfl Try.ntmps3 rfl ?_
  refine .seq <| .region <| .on rfl <| .box rfl rfl rfl fun c1 _ _ => .on rfl <| .box rfl rfl rfl fun c2 _ _ => .e (.assign rfl) rfl rfl <| .nil ?_
  refine .go <| .seq ?_
  refine .draw [(c1, _), (c2, _)] mixed (.cons (.there <| .here) (.cons .here .nil)) ?_
  refine .one (i := 0) (by kernel_rfl) rfl rfl <| .callP cal10 rfl rfl rfl (bears_ok) ?_
  refine ⟨(.cons (.there <| .here) (.cons .here .nil)), Imm.le_refl _, ?_⟩
  refine .t 1 rfl (.move rfl) rfl rfl (by kernel_rfl) <| .t 2 rfl (.loadW ag25 sz25 rfl .here rfl) rfl rfl (by kernel_rfl) <| .t 3 rfl (.loadW ag25 sz25 rfl (.there <| .here) rfl) rfl rfl (by kernel_rfl) <| .t 5 rfl (.loadW ag25 sz25 rfl .here rfl) rfl rfl (by kernel_rfl) <| .t 6 rfl (.loadW ag25 sz25 rfl (.there <| .here) rfl) rfl rfl (by kernel_rfl) <| .one (i := 4) (by kernel_rfl) rfl rfl ?_
  refine .callP cal11 rfl rfl rfl (Bear_ok (by assumption) (by assumption)) ?_
  refine ⟨(.cons (.there <| .here) (.cons .here .nil)), Imm.le_refl _, ?_⟩
  refine .one (i := 7) (by kernel_rfl) rfl rfl <| .callP cal12 rfl rfl rfl (rBear_ok (by assumption) (by assumption)) ?_
  refine ⟨(.cons (.there <| .here) (.cons .here .nil)), Imm.le_refl _, ?_⟩
  refine .t 8 rfl (.eqv (eqBoolT (by rfl)) rfl rfl) rfl rfl (by kernel_rfl) <| .t 9 rfl (.pickT rfl rfl) rfl rfl (by kernel_rfl) <| .t 10 rfl (.move rfl) rfl rfl (by kernel_rfl) <| .t 11 rfl (.loadW ag25 sz25 rfl .here rfl) rfl rfl (by kernel_rfl) <| .t 12 rfl (.loadW ag25 sz25 rfl (.there <| .here) rfl) rfl rfl (by kernel_rfl) <| .t 14 rfl (.loadW ag25 sz25 rfl (.there <| .here) rfl) rfl rfl (by kernel_rfl) ?_
  refine .t 15 rfl (.loadW ag25 sz25 rfl .here rfl) rfl rfl (by kernel_rfl) <| .one (i := 13) (by kernel_rfl) rfl rfl <| .callP cal11 rfl rfl rfl (Bear_ok (by assumption) (by assumption)) ?_
  refine ⟨(.cons (.there <| .here) (.cons .here .nil)), Imm.le_refl _, ?_⟩
  refine .one (i := 16) (by kernel_rfl) rfl rfl <| .callP cal11 rfl rfl rfl (Bear_ok (by assumption) (by assumption)) ?_
  refine ⟨(.cons (.there <| .here) (.cons .here .nil)), Imm.le_refl _, ?_⟩
  refine .t 17 rfl (.eqv (eqBoolT (by simp [bear, Bool.and_comm])) rfl rfl) rfl rfl (by kernel_rfl) <| .t 18 rfl (.pickT rfl rfl) rfl rfl (by kernel_rfl) <| .t 19 rfl (.assign rfl) rfl rfl (by kernel_rfl) <| .done (by kernel_rfl) <| .go <| .ret ?_
  refine .tail <| .tail ?_
  refine Post.retE rfl rfl ?_
  rfl

set_option maxHeartbeats 1000000 in
set_option maxRecDepth 20000 in
theorem RigSuits_ok {I : Imm} {O : Own} {tc nc : List Value} {t : Tsk} {n : Nod} (ht : TskR I tc t) (hn : NodR I nc n) :
    Pure Try.prog 5 [.agg ⟨tc⟩, .agg ⟨nc⟩] I O (.bool true) := by
  obtain ⟨tw, tb, rfl, htw, htb⟩ := ht.ex
  obtain ⟨nl, nt, rfl, hnl, hnt⟩ := hn.ex
  refine Does.enter Try.func5 rfl Try.ntmps5 rfl ?_
  refine .seq <| .region <| .on rfl <| .box rfl rfl rfl fun c1 _ _ => .on rfl <| .box rfl rfl rfl fun c2 _ _ => .e (.assign rfl) rfl rfl <| .nil ?_
  refine .go <| .seq ?_
  refine .draw [(c1, _), (c2, _)] mixed (.cons (.there <| .here) (.cons .here .nil)) ?_
  refine .one (i := 0) (by kernel_rfl) rfl rfl <| .callP cal13 rfl rfl rfl (suits_ok) ?_
  refine ⟨(.cons (.there <| .here) (.cons .here .nil)), Imm.le_refl _, ?_⟩
  refine .t 1 rfl (.move rfl) rfl rfl (by kernel_rfl) <| .t 2 rfl (.loadW ag25 sz25 rfl .here rfl) rfl rfl (by kernel_rfl) <| .t 3 rfl (.loadW ag30 sz30 rfl (.there <| .here) rfl) rfl rfl (by kernel_rfl) <| .t 5 rfl (.loadW ag25 sz25 rfl .here rfl) rfl rfl (by kernel_rfl) <| .t 6 rfl (.loadW ag30 sz30 rfl (.there <| .here) rfl) rfl rfl (by kernel_rfl) <| .one (i := 4) (by kernel_rfl) rfl rfl ?_
  refine .callP cal14 rfl rfl rfl (Suits_ok (by assumption) (by assumption)) ?_
  refine ⟨(.cons (.there <| .here) (.cons .here .nil)), Imm.le_refl _, ?_⟩
  refine .one (i := 7) (by kernel_rfl) rfl rfl <| .callP cal15 rfl rfl rfl (rSuits_ok (by assumption) (by assumption)) ?_
  refine ⟨(.cons (.there <| .here) (.cons .here .nil)), Imm.le_refl _, ?_⟩
  refine .t 8 rfl (.eqv (eqBoolT (by rfl)) rfl rfl) rfl rfl (by kernel_rfl) <| .t 9 rfl (.pickT rfl rfl) rfl rfl (by kernel_rfl) <| .t 10 rfl (.assign rfl) rfl rfl (by kernel_rfl) <| .done (by kernel_rfl) <| .go <| .ret ?_
  refine .tail <| .tail ?_
  refine Post.retE rfl rfl ?_
  rfl

set_option maxHeartbeats 1000000 in
set_option maxRecDepth 20000 in
theorem RigGroups_ok {I : Imm} {O : Own} {ac bc : List Value} {a b : Tsk} (ha : TskR I ac a) (hb : TskR I bc b) {s : ByteArray} (hs : StrOk s) :
    Pure Try.prog 4 [.agg ⟨ac⟩, .agg ⟨bc⟩, .string s] I O (.bool true) := by
  obtain ⟨aw, ab, rfl, haw, hab⟩ := ha.ex
  obtain ⟨bw, bb, rfl, hbw, hbb⟩ := hb.ex
  refine Does.enter Try.func4 rfl Try.ntmps4 rfl ?_
  refine .seq <| .region <| .on rfl <| .box rfl rfl rfl fun c1 _ _ => .on rfl <| .box rfl rfl rfl fun c2 _ _ => .e (.assign rfl) rfl rfl <| .nil ?_
  refine .go <| .seq <| .seq <| .region <| .on rfl <| .callP cal10 rfl rfl rfl (bears_ok) <| .e (.not rfl) rfl rfl ?_
  refine .nil <| .go <| .cond_false rfl <| .skip <| .go <| .seq ?_
  refine .region <| .e (.fieldAddr fo25_5 rfl) rfl rfl <| .on rfl <| .store sz9 rfl rfl rfl rfl rfl rfl (.there <| .here) <| .e (.fieldAddr fo25_5 rfl) rfl rfl <| .on rfl <| .store sz9 rfl rfl rfl rfl rfl rfl .here <| .nil ?_
  refine .go <| .seq <| .seq <| .region <| .e (.loadW ag25 sz25 rfl (.there <| .here) rfl) rfl rfl <| .e (.loadW ag25 sz25 rfl .here rfl) rfl rfl ?_
  refine .on rfl <| .callP cal11 rfl rfl rfl ((Bear_ok (a := { a with apart := ⟨#[]⟩ }) (b := { b with apart := ⟨#[]⟩ }) (ha.withApart haw hab _ strOk_nil) (hb.withApart hbw hbb _ strOk_nil)).castT (by simp [bear, shuns])) <| .e (.not rfl) rfl rfl <| .nil <| .go <| .cond_false rfl <| .skip ?_
  refine .go <| .seq <| .region <| .e (.move rfl) rfl rfl <| .e (.move rfl) rfl rfl <| .e (.move rfl) rfl rfl ?_
  refine .e (.fieldAddr fo25_4 rfl) rfl rfl <| .on rfl <| .store sz9 rfl rfl rfl rfl rfl rfl (.there <| .here) <| .e (.fieldAddr fo25_4 rfl) rfl rfl <| .on rfl <| .store sz9 rfl rfl rfl rfl rfl rfl .here <| .e (.fieldAddr fo25_5 rfl) rfl rfl <| .on rfl <| .store sz9 rfl rfl rfl rfl rfl rfl (.there <| .here) ?_
  refine .nil <| .go <| .seq <| .region <| .e (.loadW ag25 sz25 rfl (.there <| .here) rfl) rfl rfl <| .e (.loadW ag25 sz25 rfl .here rfl) rfl rfl ?_
  refine .on rfl <| .callP cal11 rfl rfl rfl (Bear_ok (a := { a with apart := s, group := s }) (b := { b with apart := ⟨#[]⟩, group := s }) ((ha.withApart haw hab _ hs).withGroup haw hab _ hs) ((hb.withApart hbw hbb _ strOk_nil).withGroup hbw hbb _ hs)) <| .e (.move rfl) rfl rfl <| .e (.streq rfl rfl) rfl rfl <| .e (.eqv (eqBoolT (by simp only [bear, shuns]; by_cases h : s = ⟨#[]⟩ <;> simp [h])) rfl rfl) rfl rfl <| .e (.assign rfl) rfl rfl <| .nil ?_
  refine .go <| .ret ?_
  refine .tail <| .tail ?_
  refine Post.retE rfl rfl ?_
  rfl

end Go.Proofs.Ytamgiiohaojelaa
