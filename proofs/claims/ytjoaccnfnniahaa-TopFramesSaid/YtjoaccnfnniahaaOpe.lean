/- Walks of functions over a symbolic memory, printed by a program of the session. -/
import Derived.Test.YtjoaccnfnniahaaSyO
import Derived.Test.YtjoaccnfnniahaaFacts
import Derived.Test.YtjoaccnfnniahaaDj
namespace Go.Proofs.Ytjoaccnfnniahaa
open Go.Sy
set_option linter.unusedSimpArgs false
set_option linter.unusedVariables false

def StrZ (_L : Nat → Nat → Prop) (_S : Nat → Prop) (_z : ByteArray) : Prop := True
def BolZ (_L : Nat → Nat → Prop) (_S : Nat → Prop) (_z : Bool) : Prop := True
theorem openI64 {H : Type} {enc : TypeId × Value → H} {W : World} {base : Nat} {spare : Nat → Bool} {held : Bool} {fuel : Nat} {cs : List Value} {x : DataW H × List MemPlace} (M : Meas Try.prog H) (h : DataW.trod enc Try.prog W base spare held fuel 3 cs = some x) (hm : M.ok 3 x.1) : ∃ p, I64R (snap W) cs p ∧ I64Z M.L M.S p := by
  obtain ⟨n, rfl, hw⟩ := rd_int Try.underlying3 h
  exact ⟨n, ⟨rfl, bounds_i64 hw⟩, trivial⟩
theorem openStr {H : Type} {enc : TypeId × Value → H} {W : World} {base : Nat} {spare : Nat → Bool} {held : Bool} {fuel : Nat} {cs : List Value} {x : DataW H × List MemPlace} (M : Meas Try.prog H) (h : DataW.trod enc Try.prog W base spare held fuel 9 cs = some x) (hm : M.ok 9 x.1) : ∃ p, StrR (snap W) cs p ∧ StrZ M.L M.S p := by
  obtain ⟨s, rfl, hw, _⟩ := rd_str M Try.underlying9 h hm
  exact ⟨s, ⟨rfl, hw⟩, trivial⟩
theorem openBol {H : Type} {enc : TypeId × Value → H} {W : World} {base : Nat} {spare : Nat → Bool} {held : Bool} {fuel : Nat} {cs : List Value} {x : DataW H × List MemPlace} (M : Meas Try.prog H) (h : DataW.trod enc Try.prog W base spare held fuel 4 cs = some x) (hm : M.ok 4 x.1) : ∃ p, BolR (snap W) cs p ∧ BolZ M.L M.S p := by
  obtain ⟨b, rfl⟩ := rd_bool Try.underlying4 h
  exact ⟨b, rfl, trivial⟩

end Go.Proofs.Ytjoaccnfnniahaa
