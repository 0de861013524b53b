/- Walks of functions over a symbolic memory, printed by a program of the session. -/
import Derived.Test.YtjoaccnfnniahaaDoorDn
namespace Go.Proofs.YtjoaccnfnniahaaDoor
open Go.Sy
set_option linter.unusedSimpArgs false
set_option linter.unusedVariables false

def isTmp (s : ByteArray) : ByteArray := s ++ ⟨#[46, 116, 109, 112]⟩
def put3 (d : Dsk) (tmp nm x : ByteArray) : Dsk × Int :=
  if (addR d tmp x).2 = 0 then (if (syncR (addR d tmp x).1 tmp).2 = 0 then swapR (syncR (addR d tmp x).1 tmp).1 tmp nm else syncR (addR d tmp x).1 tmp) else addR d tmp x
def putR (d : Dsk) (nm x : ByteArray) : Dsk × Int :=
  if (readR d (isTmp nm)).2 = 0 then (if (dropR d (isTmp nm)).2 = 0 then put3 (dropR d (isTmp nm)).1 (isTmp nm) nm x else dropR d (isTmp nm)) else put3 d (isTmp nm) nm x
theorem add_len {d : Dsk} {s x : ByteArray} : (addR d s x).1.files.length ≤ d.files.length + 1 := by
  have hb := base_len (d := d) (s := s)
  have hp : (putF d s x).length ≤ d.files.length + 1 := by unfold putF; rw [List.length_set, hb]; split <;> omega
  unfold addR
  repeat' split
  all_goals dsimp only
  all_goals first | exact hp | (simp only [List.length_nil]; omega) | omega
theorem sync_len {d : Dsk} {s : ByteArray} : (syncR d s).1.files.length ≤ d.files.length := by
  have hp : (syncF d s).length ≤ d.files.length := by unfold syncF; rw [List.length_set]; exact Nat.le_refl _
  unfold syncR
  repeat' split
  all_goals dsimp only
  all_goals first | exact hp | (simp only [List.length_nil]; omega) | omega
theorem drop_sub {d : Dsk} {s : ByteArray} : (dropR d s).1.files.length ≤ d.files.length ∧ ∀ f ∈ (dropR d s).1.files, f ∈ d.files := by
  have hp : (delF d s).length ≤ d.files.length ∧ ∀ f ∈ delF d s, f ∈ d.files := by
    unfold delF
    rw [← List.eraseIdx_eq_take_drop_succ]
    exact ⟨(List.eraseIdx_sublist _ _).length_le, fun f hf => (List.eraseIdx_sublist _ _).subset hf⟩
  unfold dropR
  repeat' split
  all_goals dsimp only
  all_goals first | exact hp | exact ⟨Nat.le_refl _, fun _ h => h⟩ | exact ⟨Nat.zero_le _, fun _ h => absurd h List.not_mem_nil⟩

end Go.Proofs.YtjoaccnfnniahaaDoor
