/-
  No cell of these rows narrows 'for every input' (looked for: loops, veiled, ifaces, maps, wideKeys, modest, calm, conditions, laid).
  DERIVED. THE GIVEN ROWS OF THIS SEAT. 6 by the template 'for every input the law returns true; each argument reads behind the call as it read before'; 0 by the template 'total and deterministic' (their statements: YteajcmnbjpbnpaaTotals.lean).
  GIVEN WITH THE SEED: the statements are not yours to turn. If you find one false, say at which input.
  Laid BY PROGRAM, IN A SANDBOX (cutbox-rows.mjs): the forced cells as the released guide's own fill.sh prints them over the translation bfa57d91680a6bc0… (all of the seat's roots in one cut). By AI agents, Wed Nov 11 2026. No macro, syntax, notation, axiom, sorry.
-/
import Derived.Test.YteajcmnbjpbnpaaChecked
import GoSem.Claim
import GoSem.ClaimJoined
import GoSem.ClaimMapViews
import Derived.JoinedTies
import Derived.KernelRfl
namespace Go.Proofs.Yteajcmnbjpbnpaa
/- THE CELL 'sum', in the pinned program and in every row, IS THE sha256 OF THE DUMP (.gsa) THAT YteajcmnbjpbnpaaProg.lean LOADS. Nothing in Lean hashes anything: it is a label: what it is worth is what the hold of that sum in a sandbox is worth. -/
noncomputable def Try.pinned : Pinned := { name := "yteajcmnbjpbnpaa", sum := "bfa57d91680a6bc0bfc4b4d73b7306249b2d3ec840d61ea1e1c51ce63f20ef0d", checked := Try.checked }
namespace Rows
def none {H : Type} : Left H := { results := [], args := [] }

/-- 'gafferlaw14.LogChanges': WHATEVER THE INPUT: true; the input reads as it did. -/
def logChangesSpec : ChangeSpec := { name := "logChanges", fn := fun _ => fun
  | [d1, d2, d3, d4, d5] => { results := [.lit (.bool true)], args := [d1, d2, d3, d4, d5] }
  | _ => none }
def logChangesRow : OpenClaim := { program := "yteajcmnbjpbnpaa", sum := "bfa57d91680a6bc0bfc4b4d73b7306249b2d3ec840d61ea1e1c51ce63f20ef0d", func := "gaffer/gafferlaw14.LogChanges", spec := "logChanges", apart := false }
def LogChangesSaid : Prop := logChangesRow.holds Try.pinned (OpenSpec.ofChange logChangesSpec)

/-- ITS FALSE NEIGHBOUR: 'it returns false'. Refute it at one input. -/
def logChangesWrong : ChangeSpec := { name := "logChanges", fn := fun _ => fun
  | [d1, d2, d3, d4, d5] => { results := [.lit (.bool false)], args := [d1, d2, d3, d4, d5] }
  | _ => none }
def LogChangesWrongFalsely : Prop := logChangesRow.holds Try.pinned (OpenSpec.ofChange logChangesWrong)

/-- 'gafferlaw14.LogJoined': WHATEVER THE INPUT: true; the input reads as it did. -/
def logJoinedSpec : ChangeSpec := { name := "logJoined", fn := fun _ => fun
  | [d1, d2, d3, d4] => { results := [.lit (.bool true)], args := [d1, d2, d3, d4] }
  | _ => none }
def logJoinedRow : OpenClaim := { program := "yteajcmnbjpbnpaa", sum := "bfa57d91680a6bc0bfc4b4d73b7306249b2d3ec840d61ea1e1c51ce63f20ef0d", func := "gaffer/gafferlaw14.LogJoined", spec := "logJoined", apart := false }
def LogJoinedSaid : Prop := logJoinedRow.holds Try.pinned (OpenSpec.ofChange logJoinedSpec)

/-- ITS FALSE NEIGHBOUR: 'it returns false'. Refute it at one input. -/
def logJoinedWrong : ChangeSpec := { name := "logJoined", fn := fun _ => fun
  | [d1, d2, d3, d4] => { results := [.lit (.bool false)], args := [d1, d2, d3, d4] }
  | _ => none }
def LogJoinedWrongFalsely : Prop := logJoinedRow.holds Try.pinned (OpenSpec.ofChange logJoinedWrong)

/-- 'gafferlaw14.LogTrimmed': WHATEVER THE INPUT: true; the input reads as it did. -/
def logTrimmedSpec : ChangeSpec := { name := "logTrimmed", fn := fun _ => fun
  | [d1, d2, d3, d4] => { results := [.lit (.bool true)], args := [d1, d2, d3, d4] }
  | _ => none }
def logTrimmedRow : OpenClaim := { program := "yteajcmnbjpbnpaa", sum := "bfa57d91680a6bc0bfc4b4d73b7306249b2d3ec840d61ea1e1c51ce63f20ef0d", func := "gaffer/gafferlaw14.LogTrimmed", spec := "logTrimmed", apart := false }
def LogTrimmedSaid : Prop := logTrimmedRow.holds Try.pinned (OpenSpec.ofChange logTrimmedSpec)

/-- ITS FALSE NEIGHBOUR: 'it returns false'. Refute it at one input. -/
def logTrimmedWrong : ChangeSpec := { name := "logTrimmed", fn := fun _ => fun
  | [d1, d2, d3, d4] => { results := [.lit (.bool false)], args := [d1, d2, d3, d4] }
  | _ => none }
def LogTrimmedWrongFalsely : Prop := logTrimmedRow.holds Try.pinned (OpenSpec.ofChange logTrimmedWrong)

/-- 'gafferlaw14.LogOwn': WHATEVER THE INPUT: true; the input reads as it did. -/
def logOwnSpec : ChangeSpec := { name := "logOwn", fn := fun _ => fun
  | [d1, d2, d3, d4] => { results := [.lit (.bool true)], args := [d1, d2, d3, d4] }
  | _ => none }
def logOwnRow : OpenClaim := { program := "yteajcmnbjpbnpaa", sum := "bfa57d91680a6bc0bfc4b4d73b7306249b2d3ec840d61ea1e1c51ce63f20ef0d", func := "gaffer/gafferlaw14.LogOwn", spec := "logOwn", apart := false }
def LogOwnSaid : Prop := logOwnRow.holds Try.pinned (OpenSpec.ofChange logOwnSpec)

/-- ITS FALSE NEIGHBOUR: 'it returns false'. Refute it at one input. -/
def logOwnWrong : ChangeSpec := { name := "logOwn", fn := fun _ => fun
  | [d1, d2, d3, d4] => { results := [.lit (.bool false)], args := [d1, d2, d3, d4] }
  | _ => none }
def LogOwnWrongFalsely : Prop := logOwnRow.holds Try.pinned (OpenSpec.ofChange logOwnWrong)

/-- 'gafferlaw14.LogParts': WHATEVER THE INPUT: true; the input reads as it did. -/
def logPartsSpec : ChangeSpec := { name := "logParts", fn := fun _ => fun
  | [d1, d2] => { results := [.lit (.bool true)], args := [d1, d2] }
  | _ => none }
def logPartsRow : OpenClaim := { program := "yteajcmnbjpbnpaa", sum := "bfa57d91680a6bc0bfc4b4d73b7306249b2d3ec840d61ea1e1c51ce63f20ef0d", func := "gaffer/gafferlaw14.LogParts", spec := "logParts", apart := false }
def LogPartsSaid : Prop := logPartsRow.holds Try.pinned (OpenSpec.ofChange logPartsSpec)

/-- ITS FALSE NEIGHBOUR: 'it returns false'. Refute it at one input. -/
def logPartsWrong : ChangeSpec := { name := "logParts", fn := fun _ => fun
  | [d1, d2] => { results := [.lit (.bool false)], args := [d1, d2] }
  | _ => none }
def LogPartsWrongFalsely : Prop := logPartsRow.holds Try.pinned (OpenSpec.ofChange logPartsWrong)

/-- 'gafferlaw14.LogAsks': WHATEVER THE INPUT: true; the input reads as it did. -/
def logAsksSpec : ChangeSpec := { name := "logAsks", fn := fun _ => fun
  | [d1, d2, d3, d4, d5] => { results := [.lit (.bool true)], args := [d1, d2, d3, d4, d5] }
  | _ => none }
def logAsksRow : OpenClaim := { program := "yteajcmnbjpbnpaa", sum := "bfa57d91680a6bc0bfc4b4d73b7306249b2d3ec840d61ea1e1c51ce63f20ef0d", func := "gaffer/gafferlaw14.LogAsks", spec := "logAsks", unfollowed := true, recurses := true, apart := false }
def LogAsksSaid : Prop := logAsksRow.holds Try.pinned (OpenSpec.ofChange logAsksSpec)

/-- ITS FALSE NEIGHBOUR: 'it returns false'. Refute it at one input. -/
def logAsksWrong : ChangeSpec := { name := "logAsks", fn := fun _ => fun
  | [d1, d2, d3, d4, d5] => { results := [.lit (.bool false)], args := [d1, d2, d3, d4, d5] }
  | _ => none }
def LogAsksWrongFalsely : Prop := logAsksRow.holds Try.pinned (OpenSpec.ofChange logAsksWrong)

/- THE SECOND FORM. 'bulk': how many values and letters a reading holds, each counted each time it is reached (what is shared counts as often as it is met; a slice's spare places count too). A statement '..UptoSaid' is the law's where the arguments, and the package variables that the reading takes, are together of bulk at most 1048576: NARROWER than '..Said'. Prove '..Said' where nothing that the law and all that it calls make is longer than what came in: it says more and counts as full. Else prove '..UptoSaid'. A law counts once. -/
mutual
def uptoBulk {H : Type} : DataW H → Nat
  | .lit (.string bytes) => bytes.length + 1
  | .lit _ => 1
  | .nil => 1
  | .ptr d => uptoBulk d + 1
  | .slice elems spare => uptoBulkAll elems + uptoBulkAll spare + 1
  | .agg parts => uptoBulkAll parts + 1
  | .iface _ d => uptoBulk d + 1
  | .map entries => uptoBulkEntries entries + 1
  | .held _ => 1
def uptoBulkAll {H : Type} : List (DataW H) → Nat
  | [] => 0
  | d :: r => uptoBulk d + uptoBulkAll r
def uptoBulkEntries {H : Type} : List (Lit × DataW H) → Nat
  | [] => 0
  | x :: r => uptoBulkEntry x + uptoBulkEntries r
def uptoBulkEntry {H : Type} : Lit × DataW H → Nat
  | (.string bytes, d) => bytes.length + uptoBulk d + 1
  | (_, d) => uptoBulk d + 1
 end
def uptoSmall : (H : Type) → List (DataW H) → Bool := fun _ ds => decide (uptoBulkAll ds ≤ 1048576)
def OpenSpec.upto (s : _root_.Go.ChangeSpec) : _root_.Go.OpenSpec := { _root_.Go.OpenSpec.ofChange s with cond := some uptoSmall }

/-- 'gafferlaw14.LogChanges', WHERE WHAT IT READS IS OF BULK AT MOST 1048576: true; the input reads as it did. -/
def logChangesUptoRow : OpenClaim := { program := "yteajcmnbjpbnpaa", sum := "bfa57d91680a6bc0bfc4b4d73b7306249b2d3ec840d61ea1e1c51ce63f20ef0d", func := "gaffer/gafferlaw14.LogChanges", spec := "logChanges", apart := false, narrowed := true }
def LogChangesUptoSaid : Prop := logChangesUptoRow.holds Try.pinned (OpenSpec.upto logChangesSpec)

/-- 'gafferlaw14.LogJoined', WHERE WHAT IT READS IS OF BULK AT MOST 1048576: true; the input reads as it did. -/
def logJoinedUptoRow : OpenClaim := { program := "yteajcmnbjpbnpaa", sum := "bfa57d91680a6bc0bfc4b4d73b7306249b2d3ec840d61ea1e1c51ce63f20ef0d", func := "gaffer/gafferlaw14.LogJoined", spec := "logJoined", apart := false, narrowed := true }
def LogJoinedUptoSaid : Prop := logJoinedUptoRow.holds Try.pinned (OpenSpec.upto logJoinedSpec)

/-- 'gafferlaw14.LogTrimmed', WHERE WHAT IT READS IS OF BULK AT MOST 1048576: true; the input reads as it did. -/
def logTrimmedUptoRow : OpenClaim := { program := "yteajcmnbjpbnpaa", sum := "bfa57d91680a6bc0bfc4b4d73b7306249b2d3ec840d61ea1e1c51ce63f20ef0d", func := "gaffer/gafferlaw14.LogTrimmed", spec := "logTrimmed", apart := false, narrowed := true }
def LogTrimmedUptoSaid : Prop := logTrimmedUptoRow.holds Try.pinned (OpenSpec.upto logTrimmedSpec)

/-- 'gafferlaw14.LogOwn', WHERE WHAT IT READS IS OF BULK AT MOST 1048576: true; the input reads as it did. -/
def logOwnUptoRow : OpenClaim := { program := "yteajcmnbjpbnpaa", sum := "bfa57d91680a6bc0bfc4b4d73b7306249b2d3ec840d61ea1e1c51ce63f20ef0d", func := "gaffer/gafferlaw14.LogOwn", spec := "logOwn", apart := false, narrowed := true }
def LogOwnUptoSaid : Prop := logOwnUptoRow.holds Try.pinned (OpenSpec.upto logOwnSpec)

/-- 'gafferlaw14.LogParts', WHERE WHAT IT READS IS OF BULK AT MOST 1048576: true; the input reads as it did. -/
def logPartsUptoRow : OpenClaim := { program := "yteajcmnbjpbnpaa", sum := "bfa57d91680a6bc0bfc4b4d73b7306249b2d3ec840d61ea1e1c51ce63f20ef0d", func := "gaffer/gafferlaw14.LogParts", spec := "logParts", apart := false, narrowed := true }
def LogPartsUptoSaid : Prop := logPartsUptoRow.holds Try.pinned (OpenSpec.upto logPartsSpec)

/-- 'gafferlaw14.LogAsks', WHERE WHAT IT READS IS OF BULK AT MOST 1048576: true; the input reads as it did. -/
def logAsksUptoRow : OpenClaim := { program := "yteajcmnbjpbnpaa", sum := "bfa57d91680a6bc0bfc4b4d73b7306249b2d3ec840d61ea1e1c51ce63f20ef0d", func := "gaffer/gafferlaw14.LogAsks", spec := "logAsks", unfollowed := true, recurses := true, apart := false, narrowed := true }
def LogAsksUptoSaid : Prop := logAsksUptoRow.holds Try.pinned (OpenSpec.upto logAsksSpec)

end Rows
end Go.Proofs.Yteajcmnbjpbnpaa
