/- Walks of functions over a symbolic memory, printed by a program of the session. -/
import Derived.Test.YtjoaccnfnniahaaDoorSyO
import Derived.Test.YtjoaccnfnniahaaDoorFacts
import Derived.Test.YtjoaccnfnniahaaDoorSg
namespace Go.Proofs.YtjoaccnfnniahaaDoor
open Go.Sy
set_option linter.unusedSimpArgs false
set_option linter.unusedVariables false

def StrZ (_L : Nat → Nat → Prop) (_S : Nat → Prop) (_z : ByteArray) : Prop := True
theorem openI64 {H : Type} {enc : TypeId × Value → H} {W : World} {base : Nat} {spare : Nat → Bool} {held : Bool} {fuel : Nat} {cs : List Value} {x : DataW H × List MemPlace} (M : Meas Tryd.prog H) (h : DataW.trod enc Tryd.prog W base spare held fuel 3 cs = some x) (hm : M.ok 3 x.1) : ∃ p, I64R (snap W) cs p ∧ I64Z M.L M.S p := by
  obtain ⟨n, rfl, hw⟩ := rd_int Tryd.underlying3 h
  exact ⟨n, ⟨rfl, bounds_i64 hw⟩, trivial⟩
theorem openStr {H : Type} {enc : TypeId × Value → H} {W : World} {base : Nat} {spare : Nat → Bool} {held : Bool} {fuel : Nat} {cs : List Value} {x : DataW H × List MemPlace} (M : Meas Tryd.prog H) (h : DataW.trod enc Tryd.prog W base spare held fuel 9 cs = some x) (hm : M.ok 9 x.1) : ∃ p, StrR (snap W) cs p ∧ StrZ M.L M.S p := by
  obtain ⟨s, rfl, hw, _⟩ := rd_str M Tryd.underlying9 h hm
  exact ⟨s, ⟨rfl, hw⟩, trivial⟩

end Go.Proofs.YtjoaccnfnniahaaDoor
