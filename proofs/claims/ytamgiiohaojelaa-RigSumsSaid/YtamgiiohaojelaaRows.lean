/-
  No cell of these rows narrows 'for every input' (looked for: loops, veiled, ifaces, maps, wideKeys, modest, calm, conditions, laid).
  DERIVED. THE GIVEN ROWS OF THIS SEAT. 7 by the template 'for every input the law returns true; each argument reads behind the call as it read before'; 0 by the template 'total and deterministic' (their statements: YtamgiiohaojelaaTotals.lean).
  GIVEN WITH THE SEED: the statements are not yours to turn. If you find one false, say at which input.
  Laid BY PROGRAM, IN A SANDBOX (cutbox-rows.mjs): the forced cells as the released guide's own fill.sh prints them over the translation 1f280c7e53faa571… (all of the seat's roots in one cut). By AI agents, Wed Nov 11 2026. No macro, syntax, notation, axiom, sorry.
-/
import Derived.Test.YtamgiiohaojelaaChecked
import GoSem.Claim
import GoSem.ClaimJoined
import GoSem.ClaimMapViews
import Derived.JoinedTies
import Derived.KernelRfl
namespace Go.Proofs.Ytamgiiohaojelaa
/- THE CELL 'sum', in the pinned program and in every row, IS THE sha256 OF THE DUMP (.gsa) THAT YtamgiiohaojelaaProg.lean LOADS. Nothing in Lean hashes anything: it is a label: what it is worth is what the hold of that sum in a sandbox is worth. -/
noncomputable def Try.pinned : Pinned := { name := "ytamgiiohaojelaa", sum := "1f280c7e53faa571018f273c1a5bc35467a9105ccce7151c686c4543ef907edd", checked := Try.checked }
namespace Rows
def none {H : Type} : Left H := { results := [], args := [] }

/-- 'gafferlaw06.RigBears': WHATEVER THE INPUT: true; the input reads as it did. -/
def rigBearsSpec : ChangeSpec := { name := "rigBears", fn := fun _ => fun
  | [d1, d2] => { results := [.lit (.bool true)], args := [d1, d2] }
  | _ => none }
def rigBearsRow : OpenClaim := { program := "ytamgiiohaojelaa", sum := "1f280c7e53faa571018f273c1a5bc35467a9105ccce7151c686c4543ef907edd", func := "gaffer/gafferlaw06.RigBears", spec := "rigBears", apart := false }
def RigBearsSaid : Prop := rigBearsRow.holds Try.pinned (OpenSpec.ofChange rigBearsSpec)

/-- ITS FALSE NEIGHBOUR: 'it returns false'. Refute it at one input. -/
def rigBearsWrong : ChangeSpec := { name := "rigBears", fn := fun _ => fun
  | [d1, d2] => { results := [.lit (.bool false)], args := [d1, d2] }
  | _ => none }
def RigBearsWrongFalsely : Prop := rigBearsRow.holds Try.pinned (OpenSpec.ofChange rigBearsWrong)

/-- 'gafferlaw06.RigGroups': WHATEVER THE INPUT: true; the input reads as it did. -/
def rigGroupsSpec : ChangeSpec := { name := "rigGroups", fn := fun _ => fun
  | [d1, d2, d3] => { results := [.lit (.bool true)], args := [d1, d2, d3] }
  | _ => none }
def rigGroupsRow : OpenClaim := { program := "ytamgiiohaojelaa", sum := "1f280c7e53faa571018f273c1a5bc35467a9105ccce7151c686c4543ef907edd", func := "gaffer/gafferlaw06.RigGroups", spec := "rigGroups", apart := false }
def RigGroupsSaid : Prop := rigGroupsRow.holds Try.pinned (OpenSpec.ofChange rigGroupsSpec)

/-- ITS FALSE NEIGHBOUR: 'it returns false'. Refute it at one input. -/
def rigGroupsWrong : ChangeSpec := { name := "rigGroups", fn := fun _ => fun
  | [d1, d2, d3] => { results := [.lit (.bool false)], args := [d1, d2, d3] }
  | _ => none }
def RigGroupsWrongFalsely : Prop := rigGroupsRow.holds Try.pinned (OpenSpec.ofChange rigGroupsWrong)

/-- 'gafferlaw06.RigSuits': WHATEVER THE INPUT: true; the input reads as it did. -/
def rigSuitsSpec : ChangeSpec := { name := "rigSuits", fn := fun _ => fun
  | [d1, d2] => { results := [.lit (.bool true)], args := [d1, d2] }
  | _ => none }
def rigSuitsRow : OpenClaim := { program := "ytamgiiohaojelaa", sum := "1f280c7e53faa571018f273c1a5bc35467a9105ccce7151c686c4543ef907edd", func := "gaffer/gafferlaw06.RigSuits", spec := "rigSuits", apart := false }
def RigSuitsSaid : Prop := rigSuitsRow.holds Try.pinned (OpenSpec.ofChange rigSuitsSpec)

/-- ITS FALSE NEIGHBOUR: 'it returns false'. Refute it at one input. -/
def rigSuitsWrong : ChangeSpec := { name := "rigSuits", fn := fun _ => fun
  | [d1, d2] => { results := [.lit (.bool false)], args := [d1, d2] }
  | _ => none }
def RigSuitsWrongFalsely : Prop := rigSuitsRow.holds Try.pinned (OpenSpec.ofChange rigSuitsWrong)

/-- 'gafferlaw06.RigOwn': WHATEVER THE INPUT: true; the input reads as it did. -/
def rigOwnSpec : ChangeSpec := { name := "rigOwn", fn := fun _ => fun
  | [d1, d2, d3] => { results := [.lit (.bool true)], args := [d1, d2, d3] }
  | _ => none }
def rigOwnRow : OpenClaim := { program := "ytamgiiohaojelaa", sum := "1f280c7e53faa571018f273c1a5bc35467a9105ccce7151c686c4543ef907edd", func := "gaffer/gafferlaw06.RigOwn", spec := "rigOwn", apart := false }
def RigOwnSaid : Prop := rigOwnRow.holds Try.pinned (OpenSpec.ofChange rigOwnSpec)

/-- ITS FALSE NEIGHBOUR: 'it returns false'. Refute it at one input. -/
def rigOwnWrong : ChangeSpec := { name := "rigOwn", fn := fun _ => fun
  | [d1, d2, d3] => { results := [.lit (.bool false)], args := [d1, d2, d3] }
  | _ => none }
def RigOwnWrongFalsely : Prop := rigOwnRow.holds Try.pinned (OpenSpec.ofChange rigOwnWrong)

/-- 'gafferlaw06.RigLess': WHATEVER THE INPUT: true; the input reads as it did. -/
def rigLessSpec : ChangeSpec := { name := "rigLess", fn := fun _ => fun
  | [d1, d2, d3, d4, d5, d6] => { results := [.lit (.bool true)], args := [d1, d2, d3, d4, d5, d6] }
  | _ => none }
def rigLessRow : OpenClaim := { program := "ytamgiiohaojelaa", sum := "1f280c7e53faa571018f273c1a5bc35467a9105ccce7151c686c4543ef907edd", func := "gaffer/gafferlaw06.RigLess", spec := "rigLess", apart := false }
def RigLessSaid : Prop := rigLessRow.holds Try.pinned (OpenSpec.ofChange rigLessSpec)

/-- ITS FALSE NEIGHBOUR: 'it returns false'. Refute it at one input. -/
def rigLessWrong : ChangeSpec := { name := "rigLess", fn := fun _ => fun
  | [d1, d2, d3, d4, d5, d6] => { results := [.lit (.bool false)], args := [d1, d2, d3, d4, d5, d6] }
  | _ => none }
def RigLessWrongFalsely : Prop := rigLessRow.holds Try.pinned (OpenSpec.ofChange rigLessWrong)

/-- 'gafferlaw06.RigRooms': WHATEVER THE INPUT: true; the input reads as it did. -/
def rigRoomsSpec : ChangeSpec := { name := "rigRooms", fn := fun _ => fun
  | [d1, d2, d3, d4] => { results := [.lit (.bool true)], args := [d1, d2, d3, d4] }
  | _ => none }
def rigRoomsRow : OpenClaim := { program := "ytamgiiohaojelaa", sum := "1f280c7e53faa571018f273c1a5bc35467a9105ccce7151c686c4543ef907edd", func := "gaffer/gafferlaw06.RigRooms", spec := "rigRooms", unfollowed := true, recurses := true, apart := false }
def RigRoomsSaid : Prop := rigRoomsRow.holds Try.pinned (OpenSpec.ofChange rigRoomsSpec)

/-- ITS FALSE NEIGHBOUR: 'it returns false'. Refute it at one input. -/
def rigRoomsWrong : ChangeSpec := { name := "rigRooms", fn := fun _ => fun
  | [d1, d2, d3, d4] => { results := [.lit (.bool false)], args := [d1, d2, d3, d4] }
  | _ => none }
def RigRoomsWrongFalsely : Prop := rigRoomsRow.holds Try.pinned (OpenSpec.ofChange rigRoomsWrong)

/-- 'gafferlaw06.RigSums': WHATEVER THE INPUT: true; the input reads as it did. -/
def rigSumsSpec : ChangeSpec := { name := "rigSums", fn := fun _ => fun
  | [d1, d2] => { results := [.lit (.bool true)], args := [d1, d2] }
  | _ => none }
def rigSumsRow : OpenClaim := { program := "ytamgiiohaojelaa", sum := "1f280c7e53faa571018f273c1a5bc35467a9105ccce7151c686c4543ef907edd", func := "gaffer/gafferlaw06.RigSums", spec := "rigSums", unfollowed := true, recurses := true, apart := false }
def RigSumsSaid : Prop := rigSumsRow.holds Try.pinned (OpenSpec.ofChange rigSumsSpec)

/-- ITS FALSE NEIGHBOUR: 'it returns false'. Refute it at one input. -/
def rigSumsWrong : ChangeSpec := { name := "rigSums", fn := fun _ => fun
  | [d1, d2] => { results := [.lit (.bool false)], args := [d1, d2] }
  | _ => none }
def RigSumsWrongFalsely : Prop := rigSumsRow.holds Try.pinned (OpenSpec.ofChange rigSumsWrong)

/- THE SECOND FORM. 'bulk': how many values and letters a reading holds, each counted each time it is reached (what is shared counts as often as it is met; a slice's spare places count too). A statement '..UptoSaid' is the law's where the arguments, and the package variables that the reading takes, are together of bulk at most 1048576: NARROWER than '..Said'. Prove '..Said' where nothing that the law and all that it calls make is longer than what came in: it says more and counts as full. Else prove '..UptoSaid'. A law counts once. -/
mutual
def uptoBulk {H : Type} : DataW H → Nat
  | .lit (.string bytes) => bytes.length + 1
  | .lit _ => 1
  | .nil => 1
  | .ptr d => uptoBulk d + 1
  | .slice elems spare => uptoBulkAll elems + uptoBulkAll spare + 1
  | .agg parts => uptoBulkAll parts + 1
  | .iface _ d => uptoBulk d + 1
  | .map entries => uptoBulkEntries entries + 1
  | .held _ => 1
def uptoBulkAll {H : Type} : List (DataW H) → Nat
  | [] => 0
  | d :: r => uptoBulk d + uptoBulkAll r
def uptoBulkEntries {H : Type} : List (Lit × DataW H) → Nat
  | [] => 0
  | x :: r => uptoBulkEntry x + uptoBulkEntries r
def uptoBulkEntry {H : Type} : Lit × DataW H → Nat
  | (.string bytes, d) => bytes.length + uptoBulk d + 1
  | (_, d) => uptoBulk d + 1
 end
def uptoSmall : (H : Type) → List (DataW H) → Bool := fun _ ds => decide (uptoBulkAll ds ≤ 1048576)
def OpenSpec.upto (s : _root_.Go.ChangeSpec) : _root_.Go.OpenSpec := { _root_.Go.OpenSpec.ofChange s with cond := some uptoSmall }

/-- 'gafferlaw06.RigBears', WHERE WHAT IT READS IS OF BULK AT MOST 1048576: true; the input reads as it did. -/
def rigBearsUptoRow : OpenClaim := { program := "ytamgiiohaojelaa", sum := "1f280c7e53faa571018f273c1a5bc35467a9105ccce7151c686c4543ef907edd", func := "gaffer/gafferlaw06.RigBears", spec := "rigBears", apart := false, narrowed := true }
def RigBearsUptoSaid : Prop := rigBearsUptoRow.holds Try.pinned (OpenSpec.upto rigBearsSpec)

/-- 'gafferlaw06.RigGroups', WHERE WHAT IT READS IS OF BULK AT MOST 1048576: true; the input reads as it did. -/
def rigGroupsUptoRow : OpenClaim := { program := "ytamgiiohaojelaa", sum := "1f280c7e53faa571018f273c1a5bc35467a9105ccce7151c686c4543ef907edd", func := "gaffer/gafferlaw06.RigGroups", spec := "rigGroups", apart := false, narrowed := true }
def RigGroupsUptoSaid : Prop := rigGroupsUptoRow.holds Try.pinned (OpenSpec.upto rigGroupsSpec)

/-- 'gafferlaw06.RigSuits', WHERE WHAT IT READS IS OF BULK AT MOST 1048576: true; the input reads as it did. -/
def rigSuitsUptoRow : OpenClaim := { program := "ytamgiiohaojelaa", sum := "1f280c7e53faa571018f273c1a5bc35467a9105ccce7151c686c4543ef907edd", func := "gaffer/gafferlaw06.RigSuits", spec := "rigSuits", apart := false, narrowed := true }
def RigSuitsUptoSaid : Prop := rigSuitsUptoRow.holds Try.pinned (OpenSpec.upto rigSuitsSpec)

/-- 'gafferlaw06.RigOwn', WHERE WHAT IT READS IS OF BULK AT MOST 1048576: true; the input reads as it did. -/
def rigOwnUptoRow : OpenClaim := { program := "ytamgiiohaojelaa", sum := "1f280c7e53faa571018f273c1a5bc35467a9105ccce7151c686c4543ef907edd", func := "gaffer/gafferlaw06.RigOwn", spec := "rigOwn", apart := false, narrowed := true }
def RigOwnUptoSaid : Prop := rigOwnUptoRow.holds Try.pinned (OpenSpec.upto rigOwnSpec)

/-- 'gafferlaw06.RigLess', WHERE WHAT IT READS IS OF BULK AT MOST 1048576: true; the input reads as it did. -/
def rigLessUptoRow : OpenClaim := { program := "ytamgiiohaojelaa", sum := "1f280c7e53faa571018f273c1a5bc35467a9105ccce7151c686c4543ef907edd", func := "gaffer/gafferlaw06.RigLess", spec := "rigLess", apart := false, narrowed := true }
def RigLessUptoSaid : Prop := rigLessUptoRow.holds Try.pinned (OpenSpec.upto rigLessSpec)

/-- 'gafferlaw06.RigRooms', WHERE WHAT IT READS IS OF BULK AT MOST 1048576: true; the input reads as it did. -/
def rigRoomsUptoRow : OpenClaim := { program := "ytamgiiohaojelaa", sum := "1f280c7e53faa571018f273c1a5bc35467a9105ccce7151c686c4543ef907edd", func := "gaffer/gafferlaw06.RigRooms", spec := "rigRooms", unfollowed := true, recurses := true, apart := false, narrowed := true }
def RigRoomsUptoSaid : Prop := rigRoomsUptoRow.holds Try.pinned (OpenSpec.upto rigRoomsSpec)

/-- 'gafferlaw06.RigSums', WHERE WHAT IT READS IS OF BULK AT MOST 1048576: true; the input reads as it did. -/
def rigSumsUptoRow : OpenClaim := { program := "ytamgiiohaojelaa", sum := "1f280c7e53faa571018f273c1a5bc35467a9105ccce7151c686c4543ef907edd", func := "gaffer/gafferlaw06.RigSums", spec := "rigSums", unfollowed := true, recurses := true, apart := false, narrowed := true }
def RigSumsUptoSaid : Prop := rigSumsUptoRow.holds Try.pinned (OpenSpec.upto rigSumsSpec)

end Rows
end Go.Proofs.Ytamgiiohaojelaa
