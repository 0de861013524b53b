/-
  NARROWER THAN 'FOR EVERY INPUT', by the rows' own cells (each row's printed sentence says how): BookDoes: laid · BookRight: laid · BookFenced: laid · BookOwn: laid · BookNames: laid · BookCan: laid · BookUsed: laid · BookAsks: laid.
  DERIVED. THE GIVEN ROWS OF THIS SEAT. 8 by the template 'for every input the law returns true; each argument reads behind the call as it read before'; 0 by the template 'total and deterministic' (their statements: YtcojkkndmholaaaGreatDoorTotals.lean).
  GIVEN WITH THE SEED: the statements are not yours to turn. If you find one false, say at which input.
  Laid BY PROGRAM, IN A SANDBOX (cutbox-rows.mjs): the forced cells as the released guide's own fill.sh prints them over the translation b43ed289ab1199d9… (all of the seat's roots in one cut). By AI agents, Wed Nov 11 2026. No macro, syntax, notation, axiom, sorry.
-/
import Derived.Test.YtcojkkndmholaaaGreatDoorChecked
import GoSem.PinnedTables
import GoSem.Claim
import GoSem.ClaimJoined
import GoSem.ClaimMapViews
import Derived.JoinedTies
import Derived.KernelRfl
namespace Go.Proofs.YtcojkkndmholaaaGreatDoor
/- THE CELL 'sum', in the pinned program and in every row, IS THE sha256 OF THE DUMP (.gsa) THAT YtcojkkndmholaaaGreatDoorProg.lean LOADS. Nothing in Lean hashes anything: it is a label: what it is worth is what the hold of that sum in a sandbox is worth. -/
noncomputable def Tryz.pinned : Pinned := { name := "ytcojkkndmholaaagreatdoor", sum := "b43ed289ab1199d9a9db6b020357a51b1692a5ec66cc3832cab2078228a7f92d", checked := Tryz.checked }
namespace Rows
def none {H : Type} : Left H := { results := [], args := [] }

/- WHAT THE LISTED PACKAGE-LEVEL VARIABLES READ AS WHEN THE CALL BEGINS. Each datum BY PROGRAM (the guide's laid-datum.mjs) off the statement by which the dump's own 'gosem.cut.vars' lays the variable. In a bare row this is a premise. The card (YtcojkkndmholaaaGreatDoorCards.lean) ties it to the program's text. -/
def laid_unicode_utf8_acceptRanges {H : Type} : DataW H := .agg [.agg [.lit (.int .u8 128), .lit (.int .u8 191)], .agg [.lit (.int .u8 160), .lit (.int .u8 191)], .agg [.lit (.int .u8 128), .lit (.int .u8 159)], .agg [.lit (.int .u8 144), .lit (.int .u8 191)], .agg [.lit (.int .u8 128), .lit (.int .u8 143)], .agg [.lit (.int .u8 0), .lit (.int .u8 0)], .agg [.lit (.int .u8 0), .lit (.int .u8 0)], .agg [.lit (.int .u8 0), .lit (.int .u8 0)], .agg [.lit (.int .u8 0), .lit (.int .u8 0)], .agg [.lit (.int .u8 0), .lit (.int .u8 0)], .agg [.lit (.int .u8 0), .lit (.int .u8 0)], .agg [.lit (.int .u8 0), .lit (.int .u8 0)], .agg [.lit (.int .u8 0), .lit (.int .u8 0)], .agg [.lit (.int .u8 0), .lit (.int .u8 0)], .agg [.lit (.int .u8 0), .lit (.int .u8 0)], .agg [.lit (.int .u8 0), .lit (.int .u8 0)]]
/-- One of Go's own tables, pinned by name: the form's constant. -/
def laid_unicode_utf8_first : DataW Unit := Go.Pinned.utf8First

/-- 'gafferlaw08.BookDoes': WHATEVER THE INPUT: true; the input reads as it did. -/
def bookDoesSpec : ChangeSpec := { name := "bookDoes", fn := fun _ => fun
  | [d1, d2] => { results := [.lit (.bool true)], args := [d1, d2] }
  | _ => none }
def bookDoesRow : OpenClaim := { program := "ytcojkkndmholaaagreatdoor", sum := "b43ed289ab1199d9a9db6b020357a51b1692a5ec66cc3832cab2078228a7f92d", func := "gaffer/gafferlaw08.BookDoes", spec := "bookDoes", inPlace := ["internal/bytealg.IndexByteString", "internal/bytealg.IndexString", "slices.overlaps[gaffer/api.Node]", "slices.overlaps[gaffer/api.Task]", "slices.overlaps[gaffer/api.Bind]"], unfollowed := true, recurses := true, named := ["unicode/utf8.first", "unicode/utf8.acceptRanges", "internal/bytealg.MaxLen"], apart := false, laid := [("unicode/utf8.acceptRanges", laid_unicode_utf8_acceptRanges), ("unicode/utf8.first", laid_unicode_utf8_first)] }
def BookDoesSaid : Prop := bookDoesRow.holds Tryz.pinned (OpenSpec.ofChange bookDoesSpec)

/-- ITS FALSE NEIGHBOUR: 'it returns false'. Refute it at one input. -/
def bookDoesWrong : ChangeSpec := { name := "bookDoes", fn := fun _ => fun
  | [d1, d2] => { results := [.lit (.bool false)], args := [d1, d2] }
  | _ => none }
def BookDoesWrongFalsely : Prop := bookDoesRow.holds Tryz.pinned (OpenSpec.ofChange bookDoesWrong)

/-- 'gafferlaw08.BookRight': WHATEVER THE INPUT: true; the input reads as it did. -/
def bookRightSpec : ChangeSpec := { name := "bookRight", fn := fun _ => fun
  | [d1, d2] => { results := [.lit (.bool true)], args := [d1, d2] }
  | _ => none }
def bookRightRow : OpenClaim := { program := "ytcojkkndmholaaagreatdoor", sum := "b43ed289ab1199d9a9db6b020357a51b1692a5ec66cc3832cab2078228a7f92d", func := "gaffer/gafferlaw08.BookRight", spec := "bookRight", inPlace := ["internal/bytealg.IndexByteString", "internal/bytealg.IndexString", "slices.overlaps[gaffer/api.Node]", "slices.overlaps[gaffer/api.Task]", "slices.overlaps[gaffer/api.Bind]"], unfollowed := true, recurses := true, named := ["unicode/utf8.first", "unicode/utf8.acceptRanges", "internal/bytealg.MaxLen"], apart := false, laid := [("unicode/utf8.acceptRanges", laid_unicode_utf8_acceptRanges), ("unicode/utf8.first", laid_unicode_utf8_first)] }
def BookRightSaid : Prop := bookRightRow.holds Tryz.pinned (OpenSpec.ofChange bookRightSpec)

/-- ITS FALSE NEIGHBOUR: 'it returns false'. Refute it at one input. -/
def bookRightWrong : ChangeSpec := { name := "bookRight", fn := fun _ => fun
  | [d1, d2] => { results := [.lit (.bool false)], args := [d1, d2] }
  | _ => none }
def BookRightWrongFalsely : Prop := bookRightRow.holds Tryz.pinned (OpenSpec.ofChange bookRightWrong)

/-- 'gafferlaw08.BookFenced': WHATEVER THE INPUT: true; the input reads as it did. -/
def bookFencedSpec : ChangeSpec := { name := "bookFenced", fn := fun _ => fun
  | [d1, d2, d3] => { results := [.lit (.bool true)], args := [d1, d2, d3] }
  | _ => none }
def bookFencedRow : OpenClaim := { program := "ytcojkkndmholaaagreatdoor", sum := "b43ed289ab1199d9a9db6b020357a51b1692a5ec66cc3832cab2078228a7f92d", func := "gaffer/gafferlaw08.BookFenced", spec := "bookFenced", inPlace := ["internal/bytealg.IndexByteString", "internal/bytealg.IndexString", "slices.overlaps[gaffer/api.Node]", "slices.overlaps[gaffer/api.Task]", "slices.overlaps[gaffer/api.Bind]"], unfollowed := true, recurses := true, named := ["unicode/utf8.first", "unicode/utf8.acceptRanges", "internal/bytealg.MaxLen"], apart := false, laid := [("unicode/utf8.acceptRanges", laid_unicode_utf8_acceptRanges), ("unicode/utf8.first", laid_unicode_utf8_first)] }
def BookFencedSaid : Prop := bookFencedRow.holds Tryz.pinned (OpenSpec.ofChange bookFencedSpec)

/-- ITS FALSE NEIGHBOUR: 'it returns false'. Refute it at one input. -/
def bookFencedWrong : ChangeSpec := { name := "bookFenced", fn := fun _ => fun
  | [d1, d2, d3] => { results := [.lit (.bool false)], args := [d1, d2, d3] }
  | _ => none }
def BookFencedWrongFalsely : Prop := bookFencedRow.holds Tryz.pinned (OpenSpec.ofChange bookFencedWrong)

/-- 'gafferlaw08.BookOwn': WHATEVER THE INPUT: true; the input reads as it did. -/
def bookOwnSpec : ChangeSpec := { name := "bookOwn", fn := fun _ => fun
  | [d1, d2] => { results := [.lit (.bool true)], args := [d1, d2] }
  | _ => none }
def bookOwnRow : OpenClaim := { program := "ytcojkkndmholaaagreatdoor", sum := "b43ed289ab1199d9a9db6b020357a51b1692a5ec66cc3832cab2078228a7f92d", func := "gaffer/gafferlaw08.BookOwn", spec := "bookOwn", inPlace := ["internal/bytealg.IndexByteString", "internal/bytealg.IndexString", "slices.overlaps[gaffer/api.Node]", "slices.overlaps[gaffer/api.Task]", "slices.overlaps[gaffer/api.Bind]"], unfollowed := true, recurses := true, named := ["unicode/utf8.first", "unicode/utf8.acceptRanges", "internal/bytealg.MaxLen"], apart := false, laid := [("unicode/utf8.acceptRanges", laid_unicode_utf8_acceptRanges), ("unicode/utf8.first", laid_unicode_utf8_first)] }
def BookOwnSaid : Prop := bookOwnRow.holds Tryz.pinned (OpenSpec.ofChange bookOwnSpec)

/-- ITS FALSE NEIGHBOUR: 'it returns false'. Refute it at one input. -/
def bookOwnWrong : ChangeSpec := { name := "bookOwn", fn := fun _ => fun
  | [d1, d2] => { results := [.lit (.bool false)], args := [d1, d2] }
  | _ => none }
def BookOwnWrongFalsely : Prop := bookOwnRow.holds Tryz.pinned (OpenSpec.ofChange bookOwnWrong)

/-- 'gafferlaw08.BookNames': WHATEVER THE INPUT: true; the input reads as it did. -/
def bookNamesSpec : ChangeSpec := { name := "bookNames", fn := fun _ => fun
  | [d1, d2] => { results := [.lit (.bool true)], args := [d1, d2] }
  | _ => none }
def bookNamesRow : OpenClaim := { program := "ytcojkkndmholaaagreatdoor", sum := "b43ed289ab1199d9a9db6b020357a51b1692a5ec66cc3832cab2078228a7f92d", func := "gaffer/gafferlaw08.BookNames", spec := "bookNames", inPlace := ["internal/bytealg.IndexByteString", "internal/bytealg.IndexString", "slices.overlaps[gaffer/api.Node]", "slices.overlaps[gaffer/api.Task]", "slices.overlaps[gaffer/api.Bind]"], unfollowed := true, recurses := true, named := ["unicode/utf8.first", "unicode/utf8.acceptRanges", "internal/bytealg.MaxLen"], apart := false, laid := [("unicode/utf8.acceptRanges", laid_unicode_utf8_acceptRanges), ("unicode/utf8.first", laid_unicode_utf8_first)] }
def BookNamesSaid : Prop := bookNamesRow.holds Tryz.pinned (OpenSpec.ofChange bookNamesSpec)

/-- ITS FALSE NEIGHBOUR: 'it returns false'. Refute it at one input. -/
def bookNamesWrong : ChangeSpec := { name := "bookNames", fn := fun _ => fun
  | [d1, d2] => { results := [.lit (.bool false)], args := [d1, d2] }
  | _ => none }
def BookNamesWrongFalsely : Prop := bookNamesRow.holds Tryz.pinned (OpenSpec.ofChange bookNamesWrong)

/-- 'gafferlaw08.BookCan': WHATEVER THE INPUT: true; the input reads as it did. -/
def bookCanSpec : ChangeSpec := { name := "bookCan", fn := fun _ => fun
  | [d1, d2, d3] => { results := [.lit (.bool true)], args := [d1, d2, d3] }
  | _ => none }
def bookCanRow : OpenClaim := { program := "ytcojkkndmholaaagreatdoor", sum := "b43ed289ab1199d9a9db6b020357a51b1692a5ec66cc3832cab2078228a7f92d", func := "gaffer/gafferlaw08.BookCan", spec := "bookCan", inPlace := ["internal/bytealg.IndexByteString", "internal/bytealg.IndexString", "slices.overlaps[gaffer/api.Node]", "slices.overlaps[gaffer/api.Task]", "slices.overlaps[gaffer/api.Bind]"], unfollowed := true, recurses := true, named := ["unicode/utf8.first", "unicode/utf8.acceptRanges", "internal/bytealg.MaxLen"], apart := false, laid := [("unicode/utf8.acceptRanges", laid_unicode_utf8_acceptRanges), ("unicode/utf8.first", laid_unicode_utf8_first)] }
def BookCanSaid : Prop := bookCanRow.holds Tryz.pinned (OpenSpec.ofChange bookCanSpec)

/-- ITS FALSE NEIGHBOUR: 'it returns false'. Refute it at one input. -/
def bookCanWrong : ChangeSpec := { name := "bookCan", fn := fun _ => fun
  | [d1, d2, d3] => { results := [.lit (.bool false)], args := [d1, d2, d3] }
  | _ => none }
def BookCanWrongFalsely : Prop := bookCanRow.holds Tryz.pinned (OpenSpec.ofChange bookCanWrong)

/-- 'gafferlaw08.BookUsed': WHATEVER THE INPUT: true; the input reads as it did. -/
def bookUsedSpec : ChangeSpec := { name := "bookUsed", fn := fun _ => fun
  | [d1, d2, d3] => { results := [.lit (.bool true)], args := [d1, d2, d3] }
  | _ => none }
def bookUsedRow : OpenClaim := { program := "ytcojkkndmholaaagreatdoor", sum := "b43ed289ab1199d9a9db6b020357a51b1692a5ec66cc3832cab2078228a7f92d", func := "gaffer/gafferlaw08.BookUsed", spec := "bookUsed", inPlace := ["internal/bytealg.IndexByteString", "internal/bytealg.IndexString", "slices.overlaps[gaffer/api.Node]", "slices.overlaps[gaffer/api.Task]", "slices.overlaps[gaffer/api.Bind]"], unfollowed := true, recurses := true, named := ["unicode/utf8.first", "unicode/utf8.acceptRanges", "internal/bytealg.MaxLen"], apart := false, laid := [("unicode/utf8.acceptRanges", laid_unicode_utf8_acceptRanges), ("unicode/utf8.first", laid_unicode_utf8_first)] }
def BookUsedSaid : Prop := bookUsedRow.holds Tryz.pinned (OpenSpec.ofChange bookUsedSpec)

/-- ITS FALSE NEIGHBOUR: 'it returns false'. Refute it at one input. -/
def bookUsedWrong : ChangeSpec := { name := "bookUsed", fn := fun _ => fun
  | [d1, d2, d3] => { results := [.lit (.bool false)], args := [d1, d2, d3] }
  | _ => none }
def BookUsedWrongFalsely : Prop := bookUsedRow.holds Tryz.pinned (OpenSpec.ofChange bookUsedWrong)

/-- 'gafferlaw08.BookAsks': WHATEVER THE INPUT: true; the input reads as it did. -/
def bookAsksSpec : ChangeSpec := { name := "bookAsks", fn := fun _ => fun
  | [d1, d2, d3, d4] => { results := [.lit (.bool true)], args := [d1, d2, d3, d4] }
  | _ => none }
def bookAsksRow : OpenClaim := { program := "ytcojkkndmholaaagreatdoor", sum := "b43ed289ab1199d9a9db6b020357a51b1692a5ec66cc3832cab2078228a7f92d", func := "gaffer/gafferlaw08.BookAsks", spec := "bookAsks", inPlace := ["internal/bytealg.IndexByteString", "internal/bytealg.IndexString", "slices.overlaps[gaffer/api.Node]", "slices.overlaps[gaffer/api.Task]", "slices.overlaps[gaffer/api.Bind]"], unfollowed := true, recurses := true, named := ["unicode/utf8.first", "unicode/utf8.acceptRanges", "internal/bytealg.MaxLen"], apart := false, laid := [("unicode/utf8.acceptRanges", laid_unicode_utf8_acceptRanges), ("unicode/utf8.first", laid_unicode_utf8_first)] }
def BookAsksSaid : Prop := bookAsksRow.holds Tryz.pinned (OpenSpec.ofChange bookAsksSpec)

/-- ITS FALSE NEIGHBOUR: 'it returns false'. Refute it at one input. -/
def bookAsksWrong : ChangeSpec := { name := "bookAsks", fn := fun _ => fun
  | [d1, d2, d3, d4] => { results := [.lit (.bool false)], args := [d1, d2, d3, d4] }
  | _ => none }
def BookAsksWrongFalsely : Prop := bookAsksRow.holds Tryz.pinned (OpenSpec.ofChange bookAsksWrong)

/- THE SECOND FORM. 'bulk': how many values and letters a reading holds, each counted each time it is reached (what is shared counts as often as it is met; a slice's spare places count too). A statement '..UptoSaid' is the law's where the arguments, and the package variables that the reading takes, are together of bulk at most 1048576: NARROWER than '..Said'. Prove '..Said' where nothing that the law and all that it calls make is longer than what came in: it says more and counts as full. Else prove '..UptoSaid'. A law counts once. -/
mutual
def uptoBulk {H : Type} : DataW H → Nat
  | .lit (.string bytes) => bytes.length + 1
  | .lit _ => 1
  | .nil => 1
  | .ptr d => uptoBulk d + 1
  | .slice elems spare => uptoBulkAll elems + uptoBulkAll spare + 1
  | .agg parts => uptoBulkAll parts + 1
  | .iface _ d => uptoBulk d + 1
  | .map entries => uptoBulkEntries entries + 1
  | .held _ => 1
def uptoBulkAll {H : Type} : List (DataW H) → Nat
  | [] => 0
  | d :: r => uptoBulk d + uptoBulkAll r
def uptoBulkEntries {H : Type} : List (Lit × DataW H) → Nat
  | [] => 0
  | x :: r => uptoBulkEntry x + uptoBulkEntries r
def uptoBulkEntry {H : Type} : Lit × DataW H → Nat
  | (.string bytes, d) => bytes.length + uptoBulk d + 1
  | (_, d) => uptoBulk d + 1
 end
def uptoSmall : (H : Type) → List (DataW H) → Bool := fun _ ds => decide (uptoBulkAll ds ≤ 1048576)
def OpenSpec.upto (s : _root_.Go.ChangeSpec) : _root_.Go.OpenSpec := { _root_.Go.OpenSpec.ofChange s with cond := some uptoSmall }

/-- 'gafferlaw08.BookDoes', WHERE WHAT IT READS IS OF BULK AT MOST 1048576: true; the input reads as it did. -/
def bookDoesUptoRow : OpenClaim := { program := "ytcojkkndmholaaagreatdoor", sum := "b43ed289ab1199d9a9db6b020357a51b1692a5ec66cc3832cab2078228a7f92d", func := "gaffer/gafferlaw08.BookDoes", spec := "bookDoes", inPlace := ["internal/bytealg.IndexByteString", "internal/bytealg.IndexString", "slices.overlaps[gaffer/api.Node]", "slices.overlaps[gaffer/api.Task]", "slices.overlaps[gaffer/api.Bind]"], unfollowed := true, recurses := true, named := ["unicode/utf8.first", "unicode/utf8.acceptRanges", "internal/bytealg.MaxLen"], apart := false, laid := [("unicode/utf8.acceptRanges", laid_unicode_utf8_acceptRanges), ("unicode/utf8.first", laid_unicode_utf8_first)], narrowed := true }
def BookDoesUptoSaid : Prop := bookDoesUptoRow.holds Tryz.pinned (OpenSpec.upto bookDoesSpec)

/-- 'gafferlaw08.BookRight', WHERE WHAT IT READS IS OF BULK AT MOST 1048576: true; the input reads as it did. -/
def bookRightUptoRow : OpenClaim := { program := "ytcojkkndmholaaagreatdoor", sum := "b43ed289ab1199d9a9db6b020357a51b1692a5ec66cc3832cab2078228a7f92d", func := "gaffer/gafferlaw08.BookRight", spec := "bookRight", inPlace := ["internal/bytealg.IndexByteString", "internal/bytealg.IndexString", "slices.overlaps[gaffer/api.Node]", "slices.overlaps[gaffer/api.Task]", "slices.overlaps[gaffer/api.Bind]"], unfollowed := true, recurses := true, named := ["unicode/utf8.first", "unicode/utf8.acceptRanges", "internal/bytealg.MaxLen"], apart := false, laid := [("unicode/utf8.acceptRanges", laid_unicode_utf8_acceptRanges), ("unicode/utf8.first", laid_unicode_utf8_first)], narrowed := true }
def BookRightUptoSaid : Prop := bookRightUptoRow.holds Tryz.pinned (OpenSpec.upto bookRightSpec)

/-- 'gafferlaw08.BookFenced', WHERE WHAT IT READS IS OF BULK AT MOST 1048576: true; the input reads as it did. -/
def bookFencedUptoRow : OpenClaim := { program := "ytcojkkndmholaaagreatdoor", sum := "b43ed289ab1199d9a9db6b020357a51b1692a5ec66cc3832cab2078228a7f92d", func := "gaffer/gafferlaw08.BookFenced", spec := "bookFenced", inPlace := ["internal/bytealg.IndexByteString", "internal/bytealg.IndexString", "slices.overlaps[gaffer/api.Node]", "slices.overlaps[gaffer/api.Task]", "slices.overlaps[gaffer/api.Bind]"], unfollowed := true, recurses := true, named := ["unicode/utf8.first", "unicode/utf8.acceptRanges", "internal/bytealg.MaxLen"], apart := false, laid := [("unicode/utf8.acceptRanges", laid_unicode_utf8_acceptRanges), ("unicode/utf8.first", laid_unicode_utf8_first)], narrowed := true }
def BookFencedUptoSaid : Prop := bookFencedUptoRow.holds Tryz.pinned (OpenSpec.upto bookFencedSpec)

/-- 'gafferlaw08.BookOwn', WHERE WHAT IT READS IS OF BULK AT MOST 1048576: true; the input reads as it did. -/
def bookOwnUptoRow : OpenClaim := { program := "ytcojkkndmholaaagreatdoor", sum := "b43ed289ab1199d9a9db6b020357a51b1692a5ec66cc3832cab2078228a7f92d", func := "gaffer/gafferlaw08.BookOwn", spec := "bookOwn", inPlace := ["internal/bytealg.IndexByteString", "internal/bytealg.IndexString", "slices.overlaps[gaffer/api.Node]", "slices.overlaps[gaffer/api.Task]", "slices.overlaps[gaffer/api.Bind]"], unfollowed := true, recurses := true, named := ["unicode/utf8.first", "unicode/utf8.acceptRanges", "internal/bytealg.MaxLen"], apart := false, laid := [("unicode/utf8.acceptRanges", laid_unicode_utf8_acceptRanges), ("unicode/utf8.first", laid_unicode_utf8_first)], narrowed := true }
def BookOwnUptoSaid : Prop := bookOwnUptoRow.holds Tryz.pinned (OpenSpec.upto bookOwnSpec)

/-- 'gafferlaw08.BookNames', WHERE WHAT IT READS IS OF BULK AT MOST 1048576: true; the input reads as it did. -/
def bookNamesUptoRow : OpenClaim := { program := "ytcojkkndmholaaagreatdoor", sum := "b43ed289ab1199d9a9db6b020357a51b1692a5ec66cc3832cab2078228a7f92d", func := "gaffer/gafferlaw08.BookNames", spec := "bookNames", inPlace := ["internal/bytealg.IndexByteString", "internal/bytealg.IndexString", "slices.overlaps[gaffer/api.Node]", "slices.overlaps[gaffer/api.Task]", "slices.overlaps[gaffer/api.Bind]"], unfollowed := true, recurses := true, named := ["unicode/utf8.first", "unicode/utf8.acceptRanges", "internal/bytealg.MaxLen"], apart := false, laid := [("unicode/utf8.acceptRanges", laid_unicode_utf8_acceptRanges), ("unicode/utf8.first", laid_unicode_utf8_first)], narrowed := true }
def BookNamesUptoSaid : Prop := bookNamesUptoRow.holds Tryz.pinned (OpenSpec.upto bookNamesSpec)

/-- 'gafferlaw08.BookCan', WHERE WHAT IT READS IS OF BULK AT MOST 1048576: true; the input reads as it did. -/
def bookCanUptoRow : OpenClaim := { program := "ytcojkkndmholaaagreatdoor", sum := "b43ed289ab1199d9a9db6b020357a51b1692a5ec66cc3832cab2078228a7f92d", func := "gaffer/gafferlaw08.BookCan", spec := "bookCan", inPlace := ["internal/bytealg.IndexByteString", "internal/bytealg.IndexString", "slices.overlaps[gaffer/api.Node]", "slices.overlaps[gaffer/api.Task]", "slices.overlaps[gaffer/api.Bind]"], unfollowed := true, recurses := true, named := ["unicode/utf8.first", "unicode/utf8.acceptRanges", "internal/bytealg.MaxLen"], apart := false, laid := [("unicode/utf8.acceptRanges", laid_unicode_utf8_acceptRanges), ("unicode/utf8.first", laid_unicode_utf8_first)], narrowed := true }
def BookCanUptoSaid : Prop := bookCanUptoRow.holds Tryz.pinned (OpenSpec.upto bookCanSpec)

/-- 'gafferlaw08.BookUsed', WHERE WHAT IT READS IS OF BULK AT MOST 1048576: true; the input reads as it did. -/
def bookUsedUptoRow : OpenClaim := { program := "ytcojkkndmholaaagreatdoor", sum := "b43ed289ab1199d9a9db6b020357a51b1692a5ec66cc3832cab2078228a7f92d", func := "gaffer/gafferlaw08.BookUsed", spec := "bookUsed", inPlace := ["internal/bytealg.IndexByteString", "internal/bytealg.IndexString", "slices.overlaps[gaffer/api.Node]", "slices.overlaps[gaffer/api.Task]", "slices.overlaps[gaffer/api.Bind]"], unfollowed := true, recurses := true, named := ["unicode/utf8.first", "unicode/utf8.acceptRanges", "internal/bytealg.MaxLen"], apart := false, laid := [("unicode/utf8.acceptRanges", laid_unicode_utf8_acceptRanges), ("unicode/utf8.first", laid_unicode_utf8_first)], narrowed := true }
def BookUsedUptoSaid : Prop := bookUsedUptoRow.holds Tryz.pinned (OpenSpec.upto bookUsedSpec)

/-- 'gafferlaw08.BookAsks', WHERE WHAT IT READS IS OF BULK AT MOST 1048576: true; the input reads as it did. -/
def bookAsksUptoRow : OpenClaim := { program := "ytcojkkndmholaaagreatdoor", sum := "b43ed289ab1199d9a9db6b020357a51b1692a5ec66cc3832cab2078228a7f92d", func := "gaffer/gafferlaw08.BookAsks", spec := "bookAsks", inPlace := ["internal/bytealg.IndexByteString", "internal/bytealg.IndexString", "slices.overlaps[gaffer/api.Node]", "slices.overlaps[gaffer/api.Task]", "slices.overlaps[gaffer/api.Bind]"], unfollowed := true, recurses := true, named := ["unicode/utf8.first", "unicode/utf8.acceptRanges", "internal/bytealg.MaxLen"], apart := false, laid := [("unicode/utf8.acceptRanges", laid_unicode_utf8_acceptRanges), ("unicode/utf8.first", laid_unicode_utf8_first)], narrowed := true }
def BookAsksUptoSaid : Prop := bookAsksUptoRow.holds Tryz.pinned (OpenSpec.upto bookAsksSpec)

end Rows
end Go.Proofs.YtcojkkndmholaaaGreatDoor
