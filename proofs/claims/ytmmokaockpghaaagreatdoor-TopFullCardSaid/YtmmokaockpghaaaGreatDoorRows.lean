/-
  NARROWER THAN 'FOR EVERY INPUT', by the rows' own cells (each row's printed sentence says how): QueueAsks: laid · QueueEach: laid · QueueLoads: laid · QueueOwn: laid · QueueFree: laid · SchedPlans: laid · SchedAll: laid · SchedEnds: laid · SchedFirst: laid · SchedFence: laid · TopFull: laid.
  DERIVED. THE GIVEN ROWS OF THIS SEAT. 11 by the template 'for every input the law returns true; each argument reads behind the call as it read before'; 0 by the template 'total and deterministic' (their statements: YtmmokaockpghaaaGreatDoorTotals.lean).
  GIVEN WITH THE SEED: the statements are not yours to turn. If you find one false, say at which input.
  Laid BY PROGRAM, IN A SANDBOX (cutbox-rows.mjs): the forced cells as the released guide's own fill.sh prints them over the translation 668b7c8a2b1bba6b… (all of the seat's roots in one cut). By AI agents, Wed Nov 11 2026. No macro, syntax, notation, axiom, sorry.
-/
import Derived.Test.YtmmokaockpghaaaGreatDoorChecked
import GoSem.PinnedTables
import GoSem.Claim
import GoSem.ClaimJoined
import GoSem.ClaimMapViews
import Derived.JoinedTies
import Derived.KernelRfl
namespace Go.Proofs.YtmmokaockpghaaaGreatDoor
/- THE CELL 'sum', in the pinned program and in every row, IS THE sha256 OF THE DUMP (.gsa) THAT YtmmokaockpghaaaGreatDoorProg.lean LOADS. Nothing in Lean hashes anything: it is a label: what it is worth is what the hold of that sum in a sandbox is worth. -/
noncomputable def Tryz.pinned : Pinned := { name := "ytmmokaockpghaaagreatdoor", sum := "668b7c8a2b1bba6beee8eef584080c3936d68f4709a43657214c2f4d29cac926", checked := Tryz.checked }
namespace Rows
def none {H : Type} : Left H := { results := [], args := [] }

/- WHAT THE LISTED PACKAGE-LEVEL VARIABLES READ AS WHEN THE CALL BEGINS. Each datum BY PROGRAM (the guide's laid-datum.mjs) off the statement by which the dump's own 'gosem.cut.vars' lays the variable. In a bare row this is a premise. The card (YtmmokaockpghaaaGreatDoorCards.lean) ties it to the program's text. -/
def laid_unicode_utf8_acceptRanges {H : Type} : DataW H := .agg [.agg [.lit (.int .u8 128), .lit (.int .u8 191)], .agg [.lit (.int .u8 160), .lit (.int .u8 191)], .agg [.lit (.int .u8 128), .lit (.int .u8 159)], .agg [.lit (.int .u8 144), .lit (.int .u8 191)], .agg [.lit (.int .u8 128), .lit (.int .u8 143)], .agg [.lit (.int .u8 0), .lit (.int .u8 0)], .agg [.lit (.int .u8 0), .lit (.int .u8 0)], .agg [.lit (.int .u8 0), .lit (.int .u8 0)], .agg [.lit (.int .u8 0), .lit (.int .u8 0)], .agg [.lit (.int .u8 0), .lit (.int .u8 0)], .agg [.lit (.int .u8 0), .lit (.int .u8 0)], .agg [.lit (.int .u8 0), .lit (.int .u8 0)], .agg [.lit (.int .u8 0), .lit (.int .u8 0)], .agg [.lit (.int .u8 0), .lit (.int .u8 0)], .agg [.lit (.int .u8 0), .lit (.int .u8 0)], .agg [.lit (.int .u8 0), .lit (.int .u8 0)]]
/-- One of Go's own tables, pinned by name: the form's constant. -/
def laid_unicode_utf8_first : DataW Unit := Go.Pinned.utf8First

/-- 'gafferlaw11.QueueAsks': WHATEVER THE INPUT: true; the input reads as it did. -/
def queueAsksSpec : ChangeSpec := { name := "queueAsks", fn := fun _ => fun
  | [d1, d2] => { results := [.lit (.bool true)], args := [d1, d2] }
  | _ => none }
def queueAsksRow : OpenClaim := { program := "ytmmokaockpghaaagreatdoor", sum := "668b7c8a2b1bba6beee8eef584080c3936d68f4709a43657214c2f4d29cac926", func := "gaffer/gafferlaw11.QueueAsks", spec := "queueAsks", inPlace := ["internal/bytealg.IndexByteString", "internal/bytealg.IndexString"], unfollowed := true, recurses := true, named := ["unicode/utf8.first", "unicode/utf8.acceptRanges", "internal/bytealg.MaxLen"], apart := false, laid := [("unicode/utf8.acceptRanges", laid_unicode_utf8_acceptRanges), ("unicode/utf8.first", laid_unicode_utf8_first)] }
def QueueAsksSaid : Prop := queueAsksRow.holds Tryz.pinned (OpenSpec.ofChange queueAsksSpec)

/-- ITS FALSE NEIGHBOUR: 'it returns false'. Refute it at one input. -/
def queueAsksWrong : ChangeSpec := { name := "queueAsks", fn := fun _ => fun
  | [d1, d2] => { results := [.lit (.bool false)], args := [d1, d2] }
  | _ => none }
def QueueAsksWrongFalsely : Prop := queueAsksRow.holds Tryz.pinned (OpenSpec.ofChange queueAsksWrong)

/-- 'gafferlaw11.QueueEach': WHATEVER THE INPUT: true; the input reads as it did. -/
def queueEachSpec : ChangeSpec := { name := "queueEach", fn := fun _ => fun
  | [d] => { results := [.lit (.bool true)], args := [d] }
  | _ => none }
def queueEachRow : OpenClaim := { program := "ytmmokaockpghaaagreatdoor", sum := "668b7c8a2b1bba6beee8eef584080c3936d68f4709a43657214c2f4d29cac926", func := "gaffer/gafferlaw11.QueueEach", spec := "queueEach", inPlace := ["internal/bytealg.IndexByteString", "internal/bytealg.IndexString"], unfollowed := true, recurses := true, named := ["unicode/utf8.first", "unicode/utf8.acceptRanges", "internal/bytealg.MaxLen"], apart := false, laid := [("unicode/utf8.acceptRanges", laid_unicode_utf8_acceptRanges), ("unicode/utf8.first", laid_unicode_utf8_first)] }
def QueueEachSaid : Prop := queueEachRow.holds Tryz.pinned (OpenSpec.ofChange queueEachSpec)

/-- ITS FALSE NEIGHBOUR: 'it returns false'. Refute it at one input. -/
def queueEachWrong : ChangeSpec := { name := "queueEach", fn := fun _ => fun
  | [d] => { results := [.lit (.bool false)], args := [d] }
  | _ => none }
def QueueEachWrongFalsely : Prop := queueEachRow.holds Tryz.pinned (OpenSpec.ofChange queueEachWrong)

/-- 'gafferlaw11.QueueLoads': WHATEVER THE INPUT: true; the input reads as it did. -/
def queueLoadsSpec : ChangeSpec := { name := "queueLoads", fn := fun _ => fun
  | [d] => { results := [.lit (.bool true)], args := [d] }
  | _ => none }
def queueLoadsRow : OpenClaim := { program := "ytmmokaockpghaaagreatdoor", sum := "668b7c8a2b1bba6beee8eef584080c3936d68f4709a43657214c2f4d29cac926", func := "gaffer/gafferlaw11.QueueLoads", spec := "queueLoads", inPlace := ["internal/bytealg.IndexByteString", "internal/bytealg.IndexString"], unfollowed := true, recurses := true, named := ["unicode/utf8.first", "unicode/utf8.acceptRanges", "internal/bytealg.MaxLen"], apart := false, laid := [("unicode/utf8.acceptRanges", laid_unicode_utf8_acceptRanges), ("unicode/utf8.first", laid_unicode_utf8_first)] }
def QueueLoadsSaid : Prop := queueLoadsRow.holds Tryz.pinned (OpenSpec.ofChange queueLoadsSpec)

/-- ITS FALSE NEIGHBOUR: 'it returns false'. Refute it at one input. -/
def queueLoadsWrong : ChangeSpec := { name := "queueLoads", fn := fun _ => fun
  | [d] => { results := [.lit (.bool false)], args := [d] }
  | _ => none }
def QueueLoadsWrongFalsely : Prop := queueLoadsRow.holds Tryz.pinned (OpenSpec.ofChange queueLoadsWrong)

/-- 'gafferlaw11.QueueOwn': WHATEVER THE INPUT: true; the input reads as it did. -/
def queueOwnSpec : ChangeSpec := { name := "queueOwn", fn := fun _ => fun
  | [d] => { results := [.lit (.bool true)], args := [d] }
  | _ => none }
def queueOwnRow : OpenClaim := { program := "ytmmokaockpghaaagreatdoor", sum := "668b7c8a2b1bba6beee8eef584080c3936d68f4709a43657214c2f4d29cac926", func := "gaffer/gafferlaw11.QueueOwn", spec := "queueOwn", inPlace := ["internal/bytealg.IndexByteString", "internal/bytealg.IndexString"], unfollowed := true, recurses := true, named := ["unicode/utf8.first", "unicode/utf8.acceptRanges", "internal/bytealg.MaxLen"], apart := false, laid := [("unicode/utf8.acceptRanges", laid_unicode_utf8_acceptRanges), ("unicode/utf8.first", laid_unicode_utf8_first)] }
def QueueOwnSaid : Prop := queueOwnRow.holds Tryz.pinned (OpenSpec.ofChange queueOwnSpec)

/-- ITS FALSE NEIGHBOUR: 'it returns false'. Refute it at one input. -/
def queueOwnWrong : ChangeSpec := { name := "queueOwn", fn := fun _ => fun
  | [d] => { results := [.lit (.bool false)], args := [d] }
  | _ => none }
def QueueOwnWrongFalsely : Prop := queueOwnRow.holds Tryz.pinned (OpenSpec.ofChange queueOwnWrong)

/-- 'gafferlaw11.QueueFree': WHATEVER THE INPUT: true; the input reads as it did. -/
def queueFreeSpec : ChangeSpec := { name := "queueFree", fn := fun _ => fun
  | [d1, d2] => { results := [.lit (.bool true)], args := [d1, d2] }
  | _ => none }
def queueFreeRow : OpenClaim := { program := "ytmmokaockpghaaagreatdoor", sum := "668b7c8a2b1bba6beee8eef584080c3936d68f4709a43657214c2f4d29cac926", func := "gaffer/gafferlaw11.QueueFree", spec := "queueFree", inPlace := ["internal/bytealg.IndexByteString", "internal/bytealg.IndexString", "slices.overlaps[gaffer/api.Node]", "slices.overlaps[gaffer/api.Task]", "slices.overlaps[gaffer/api.Bind]"], unfollowed := true, recurses := true, named := ["unicode/utf8.first", "unicode/utf8.acceptRanges", "internal/bytealg.MaxLen"], apart := false, laid := [("unicode/utf8.acceptRanges", laid_unicode_utf8_acceptRanges), ("unicode/utf8.first", laid_unicode_utf8_first)] }
def QueueFreeSaid : Prop := queueFreeRow.holds Tryz.pinned (OpenSpec.ofChange queueFreeSpec)

/-- ITS FALSE NEIGHBOUR: 'it returns false'. Refute it at one input. -/
def queueFreeWrong : ChangeSpec := { name := "queueFree", fn := fun _ => fun
  | [d1, d2] => { results := [.lit (.bool false)], args := [d1, d2] }
  | _ => none }
def QueueFreeWrongFalsely : Prop := queueFreeRow.holds Tryz.pinned (OpenSpec.ofChange queueFreeWrong)

/-- 'gafferlaw12.SchedPlans': WHATEVER THE INPUT: true; the input reads as it did. -/
def schedPlansSpec : ChangeSpec := { name := "schedPlans", fn := fun _ => fun
  | [d1, d2] => { results := [.lit (.bool true)], args := [d1, d2] }
  | _ => none }
def schedPlansRow : OpenClaim := { program := "ytmmokaockpghaaagreatdoor", sum := "668b7c8a2b1bba6beee8eef584080c3936d68f4709a43657214c2f4d29cac926", func := "gaffer/gafferlaw12.SchedPlans", spec := "schedPlans", inPlace := ["internal/bytealg.IndexByteString", "internal/bytealg.IndexString", "slices.overlaps[gaffer/api.Node]", "slices.overlaps[gaffer/api.Task]", "slices.overlaps[gaffer/api.Bind]"], unfollowed := true, recurses := true, named := ["unicode/utf8.first", "unicode/utf8.acceptRanges", "internal/bytealg.MaxLen"], apart := false, laid := [("unicode/utf8.acceptRanges", laid_unicode_utf8_acceptRanges), ("unicode/utf8.first", laid_unicode_utf8_first)] }
def SchedPlansSaid : Prop := schedPlansRow.holds Tryz.pinned (OpenSpec.ofChange schedPlansSpec)

/-- ITS FALSE NEIGHBOUR: 'it returns false'. Refute it at one input. -/
def schedPlansWrong : ChangeSpec := { name := "schedPlans", fn := fun _ => fun
  | [d1, d2] => { results := [.lit (.bool false)], args := [d1, d2] }
  | _ => none }
def SchedPlansWrongFalsely : Prop := schedPlansRow.holds Tryz.pinned (OpenSpec.ofChange schedPlansWrong)

/-- 'gafferlaw12.SchedAll': WHATEVER THE INPUT: true; the input reads as it did. -/
def schedAllSpec : ChangeSpec := { name := "schedAll", fn := fun _ => fun
  | [d1, d2] => { results := [.lit (.bool true)], args := [d1, d2] }
  | _ => none }
def schedAllRow : OpenClaim := { program := "ytmmokaockpghaaagreatdoor", sum := "668b7c8a2b1bba6beee8eef584080c3936d68f4709a43657214c2f4d29cac926", func := "gaffer/gafferlaw12.SchedAll", spec := "schedAll", inPlace := ["internal/bytealg.IndexByteString", "internal/bytealg.IndexString", "slices.overlaps[gaffer/api.Node]", "slices.overlaps[gaffer/api.Task]", "slices.overlaps[gaffer/api.Bind]"], unfollowed := true, recurses := true, named := ["unicode/utf8.first", "unicode/utf8.acceptRanges", "internal/bytealg.MaxLen"], apart := false, laid := [("unicode/utf8.acceptRanges", laid_unicode_utf8_acceptRanges), ("unicode/utf8.first", laid_unicode_utf8_first)] }
def SchedAllSaid : Prop := schedAllRow.holds Tryz.pinned (OpenSpec.ofChange schedAllSpec)

/-- ITS FALSE NEIGHBOUR: 'it returns false'. Refute it at one input. -/
def schedAllWrong : ChangeSpec := { name := "schedAll", fn := fun _ => fun
  | [d1, d2] => { results := [.lit (.bool false)], args := [d1, d2] }
  | _ => none }
def SchedAllWrongFalsely : Prop := schedAllRow.holds Tryz.pinned (OpenSpec.ofChange schedAllWrong)

/-- 'gafferlaw12.SchedEnds': WHATEVER THE INPUT: true; the input reads as it did. -/
def schedEndsSpec : ChangeSpec := { name := "schedEnds", fn := fun _ => fun
  | [d] => { results := [.lit (.bool true)], args := [d] }
  | _ => none }
def schedEndsRow : OpenClaim := { program := "ytmmokaockpghaaagreatdoor", sum := "668b7c8a2b1bba6beee8eef584080c3936d68f4709a43657214c2f4d29cac926", func := "gaffer/gafferlaw12.SchedEnds", spec := "schedEnds", inPlace := ["internal/bytealg.IndexByteString", "internal/bytealg.IndexString", "slices.overlaps[gaffer/api.Node]", "slices.overlaps[gaffer/api.Task]", "slices.overlaps[gaffer/api.Bind]"], unfollowed := true, recurses := true, named := ["unicode/utf8.first", "unicode/utf8.acceptRanges", "internal/bytealg.MaxLen"], apart := false, laid := [("unicode/utf8.acceptRanges", laid_unicode_utf8_acceptRanges), ("unicode/utf8.first", laid_unicode_utf8_first)] }
def SchedEndsSaid : Prop := schedEndsRow.holds Tryz.pinned (OpenSpec.ofChange schedEndsSpec)

/-- ITS FALSE NEIGHBOUR: 'it returns false'. Refute it at one input. -/
def schedEndsWrong : ChangeSpec := { name := "schedEnds", fn := fun _ => fun
  | [d] => { results := [.lit (.bool false)], args := [d] }
  | _ => none }
def SchedEndsWrongFalsely : Prop := schedEndsRow.holds Tryz.pinned (OpenSpec.ofChange schedEndsWrong)

/-- 'gafferlaw12.SchedFirst': WHATEVER THE INPUT: true; the input reads as it did. -/
def schedFirstSpec : ChangeSpec := { name := "schedFirst", fn := fun _ => fun
  | [d] => { results := [.lit (.bool true)], args := [d] }
  | _ => none }
def schedFirstRow : OpenClaim := { program := "ytmmokaockpghaaagreatdoor", sum := "668b7c8a2b1bba6beee8eef584080c3936d68f4709a43657214c2f4d29cac926", func := "gaffer/gafferlaw12.SchedFirst", spec := "schedFirst", inPlace := ["internal/bytealg.IndexByteString", "internal/bytealg.IndexString", "slices.overlaps[gaffer/api.Node]", "slices.overlaps[gaffer/api.Task]", "slices.overlaps[gaffer/api.Bind]"], unfollowed := true, recurses := true, named := ["unicode/utf8.first", "unicode/utf8.acceptRanges", "internal/bytealg.MaxLen"], apart := false, laid := [("unicode/utf8.acceptRanges", laid_unicode_utf8_acceptRanges), ("unicode/utf8.first", laid_unicode_utf8_first)] }
def SchedFirstSaid : Prop := schedFirstRow.holds Tryz.pinned (OpenSpec.ofChange schedFirstSpec)

/-- ITS FALSE NEIGHBOUR: 'it returns false'. Refute it at one input. -/
def schedFirstWrong : ChangeSpec := { name := "schedFirst", fn := fun _ => fun
  | [d] => { results := [.lit (.bool false)], args := [d] }
  | _ => none }
def SchedFirstWrongFalsely : Prop := schedFirstRow.holds Tryz.pinned (OpenSpec.ofChange schedFirstWrong)

/-- 'gafferlaw12.SchedFence': WHATEVER THE INPUT: true; the input reads as it did. -/
def schedFenceSpec : ChangeSpec := { name := "schedFence", fn := fun _ => fun
  | [d1, d2, d3] => { results := [.lit (.bool true)], args := [d1, d2, d3] }
  | _ => none }
def schedFenceRow : OpenClaim := { program := "ytmmokaockpghaaagreatdoor", sum := "668b7c8a2b1bba6beee8eef584080c3936d68f4709a43657214c2f4d29cac926", func := "gaffer/gafferlaw12.SchedFence", spec := "schedFence", inPlace := ["internal/bytealg.IndexByteString", "internal/bytealg.IndexString", "slices.overlaps[gaffer/api.Node]", "slices.overlaps[gaffer/api.Task]", "slices.overlaps[gaffer/api.Bind]"], unfollowed := true, recurses := true, named := ["unicode/utf8.first", "unicode/utf8.acceptRanges", "internal/bytealg.MaxLen"], apart := false, laid := [("unicode/utf8.acceptRanges", laid_unicode_utf8_acceptRanges), ("unicode/utf8.first", laid_unicode_utf8_first)] }
def SchedFenceSaid : Prop := schedFenceRow.holds Tryz.pinned (OpenSpec.ofChange schedFenceSpec)

/-- ITS FALSE NEIGHBOUR: 'it returns false'. Refute it at one input. -/
def schedFenceWrong : ChangeSpec := { name := "schedFence", fn := fun _ => fun
  | [d1, d2, d3] => { results := [.lit (.bool false)], args := [d1, d2, d3] }
  | _ => none }
def SchedFenceWrongFalsely : Prop := schedFenceRow.holds Tryz.pinned (OpenSpec.ofChange schedFenceWrong)

/-- 'gaffertop.TopFull': WHATEVER THE INPUT: true; the input reads as it did. -/
def topFullSpec : ChangeSpec := { name := "topFull", fn := fun _ => fun
  | [d1, d2] => { results := [.lit (.bool true)], args := [d1, d2] }
  | _ => none }
def topFullRow : OpenClaim := { program := "ytmmokaockpghaaagreatdoor", sum := "668b7c8a2b1bba6beee8eef584080c3936d68f4709a43657214c2f4d29cac926", func := "gaffer/gaffertop.TopFull", spec := "topFull", inPlace := ["slices.overlaps[gaffer/api.File]", "internal/bytealg.IndexByteString", "internal/bytealg.IndexString", "slices.overlaps[gaffer/api.Node]", "slices.overlaps[gaffer/api.Task]", "slices.overlaps[gaffer/api.Bind]"], unfollowed := true, recurses := true, named := ["unicode/utf8.first", "unicode/utf8.acceptRanges", "internal/bytealg.MaxLen"], apart := false, laid := [("unicode/utf8.acceptRanges", laid_unicode_utf8_acceptRanges), ("unicode/utf8.first", laid_unicode_utf8_first)] }
def TopFullSaid : Prop := topFullRow.holds Tryz.pinned (OpenSpec.ofChange topFullSpec)

/-- ITS FALSE NEIGHBOUR: 'it returns false'. Refute it at one input. -/
def topFullWrong : ChangeSpec := { name := "topFull", fn := fun _ => fun
  | [d1, d2] => { results := [.lit (.bool false)], args := [d1, d2] }
  | _ => none }
def TopFullWrongFalsely : Prop := topFullRow.holds Tryz.pinned (OpenSpec.ofChange topFullWrong)

/- THE SECOND FORM. 'bulk': how many values and letters a reading holds, each counted each time it is reached (what is shared counts as often as it is met; a slice's spare places count too). A statement '..UptoSaid' is the law's where the arguments, and the package variables that the reading takes, are together of bulk at most 1048576: NARROWER than '..Said'. Prove '..Said' where nothing that the law and all that it calls make is longer than what came in: it says more and counts as full. Else prove '..UptoSaid'. A law counts once. -/
mutual
def uptoBulk {H : Type} : DataW H → Nat
  | .lit (.string bytes) => bytes.length + 1
  | .lit _ => 1
  | .nil => 1
  | .ptr d => uptoBulk d + 1
  | .slice elems spare => uptoBulkAll elems + uptoBulkAll spare + 1
  | .agg parts => uptoBulkAll parts + 1
  | .iface _ d => uptoBulk d + 1
  | .map entries => uptoBulkEntries entries + 1
  | .held _ => 1
def uptoBulkAll {H : Type} : List (DataW H) → Nat
  | [] => 0
  | d :: r => uptoBulk d + uptoBulkAll r
def uptoBulkEntries {H : Type} : List (Lit × DataW H) → Nat
  | [] => 0
  | x :: r => uptoBulkEntry x + uptoBulkEntries r
def uptoBulkEntry {H : Type} : Lit × DataW H → Nat
  | (.string bytes, d) => bytes.length + uptoBulk d + 1
  | (_, d) => uptoBulk d + 1
 end
def uptoSmall : (H : Type) → List (DataW H) → Bool := fun _ ds => decide (uptoBulkAll ds ≤ 1048576)
def OpenSpec.upto (s : _root_.Go.ChangeSpec) : _root_.Go.OpenSpec := { _root_.Go.OpenSpec.ofChange s with cond := some uptoSmall }

/-- 'gafferlaw11.QueueAsks', WHERE WHAT IT READS IS OF BULK AT MOST 1048576: true; the input reads as it did. -/
def queueAsksUptoRow : OpenClaim := { program := "ytmmokaockpghaaagreatdoor", sum := "668b7c8a2b1bba6beee8eef584080c3936d68f4709a43657214c2f4d29cac926", func := "gaffer/gafferlaw11.QueueAsks", spec := "queueAsks", inPlace := ["internal/bytealg.IndexByteString", "internal/bytealg.IndexString"], unfollowed := true, recurses := true, named := ["unicode/utf8.first", "unicode/utf8.acceptRanges", "internal/bytealg.MaxLen"], apart := false, laid := [("unicode/utf8.acceptRanges", laid_unicode_utf8_acceptRanges), ("unicode/utf8.first", laid_unicode_utf8_first)], narrowed := true }
def QueueAsksUptoSaid : Prop := queueAsksUptoRow.holds Tryz.pinned (OpenSpec.upto queueAsksSpec)

/-- 'gafferlaw11.QueueEach', WHERE WHAT IT READS IS OF BULK AT MOST 1048576: true; the input reads as it did. -/
def queueEachUptoRow : OpenClaim := { program := "ytmmokaockpghaaagreatdoor", sum := "668b7c8a2b1bba6beee8eef584080c3936d68f4709a43657214c2f4d29cac926", func := "gaffer/gafferlaw11.QueueEach", spec := "queueEach", inPlace := ["internal/bytealg.IndexByteString", "internal/bytealg.IndexString"], unfollowed := true, recurses := true, named := ["unicode/utf8.first", "unicode/utf8.acceptRanges", "internal/bytealg.MaxLen"], apart := false, laid := [("unicode/utf8.acceptRanges", laid_unicode_utf8_acceptRanges), ("unicode/utf8.first", laid_unicode_utf8_first)], narrowed := true }
def QueueEachUptoSaid : Prop := queueEachUptoRow.holds Tryz.pinned (OpenSpec.upto queueEachSpec)

/-- 'gafferlaw11.QueueLoads', WHERE WHAT IT READS IS OF BULK AT MOST 1048576: true; the input reads as it did. -/
def queueLoadsUptoRow : OpenClaim := { program := "ytmmokaockpghaaagreatdoor", sum := "668b7c8a2b1bba6beee8eef584080c3936d68f4709a43657214c2f4d29cac926", func := "gaffer/gafferlaw11.QueueLoads", spec := "queueLoads", inPlace := ["internal/bytealg.IndexByteString", "internal/bytealg.IndexString"], unfollowed := true, recurses := true, named := ["unicode/utf8.first", "unicode/utf8.acceptRanges", "internal/bytealg.MaxLen"], apart := false, laid := [("unicode/utf8.acceptRanges", laid_unicode_utf8_acceptRanges), ("unicode/utf8.first", laid_unicode_utf8_first)], narrowed := true }
def QueueLoadsUptoSaid : Prop := queueLoadsUptoRow.holds Tryz.pinned (OpenSpec.upto queueLoadsSpec)

/-- 'gafferlaw11.QueueOwn', WHERE WHAT IT READS IS OF BULK AT MOST 1048576: true; the input reads as it did. -/
def queueOwnUptoRow : OpenClaim := { program := "ytmmokaockpghaaagreatdoor", sum := "668b7c8a2b1bba6beee8eef584080c3936d68f4709a43657214c2f4d29cac926", func := "gaffer/gafferlaw11.QueueOwn", spec := "queueOwn", inPlace := ["internal/bytealg.IndexByteString", "internal/bytealg.IndexString"], unfollowed := true, recurses := true, named := ["unicode/utf8.first", "unicode/utf8.acceptRanges", "internal/bytealg.MaxLen"], apart := false, laid := [("unicode/utf8.acceptRanges", laid_unicode_utf8_acceptRanges), ("unicode/utf8.first", laid_unicode_utf8_first)], narrowed := true }
def QueueOwnUptoSaid : Prop := queueOwnUptoRow.holds Tryz.pinned (OpenSpec.upto queueOwnSpec)

/-- 'gafferlaw11.QueueFree', WHERE WHAT IT READS IS OF BULK AT MOST 1048576: true; the input reads as it did. -/
def queueFreeUptoRow : OpenClaim := { program := "ytmmokaockpghaaagreatdoor", sum := "668b7c8a2b1bba6beee8eef584080c3936d68f4709a43657214c2f4d29cac926", func := "gaffer/gafferlaw11.QueueFree", spec := "queueFree", inPlace := ["internal/bytealg.IndexByteString", "internal/bytealg.IndexString", "slices.overlaps[gaffer/api.Node]", "slices.overlaps[gaffer/api.Task]", "slices.overlaps[gaffer/api.Bind]"], unfollowed := true, recurses := true, named := ["unicode/utf8.first", "unicode/utf8.acceptRanges", "internal/bytealg.MaxLen"], apart := false, laid := [("unicode/utf8.acceptRanges", laid_unicode_utf8_acceptRanges), ("unicode/utf8.first", laid_unicode_utf8_first)], narrowed := true }
def QueueFreeUptoSaid : Prop := queueFreeUptoRow.holds Tryz.pinned (OpenSpec.upto queueFreeSpec)

/-- 'gafferlaw12.SchedPlans', WHERE WHAT IT READS IS OF BULK AT MOST 1048576: true; the input reads as it did. -/
def schedPlansUptoRow : OpenClaim := { program := "ytmmokaockpghaaagreatdoor", sum := "668b7c8a2b1bba6beee8eef584080c3936d68f4709a43657214c2f4d29cac926", func := "gaffer/gafferlaw12.SchedPlans", spec := "schedPlans", inPlace := ["internal/bytealg.IndexByteString", "internal/bytealg.IndexString", "slices.overlaps[gaffer/api.Node]", "slices.overlaps[gaffer/api.Task]", "slices.overlaps[gaffer/api.Bind]"], unfollowed := true, recurses := true, named := ["unicode/utf8.first", "unicode/utf8.acceptRanges", "internal/bytealg.MaxLen"], apart := false, laid := [("unicode/utf8.acceptRanges", laid_unicode_utf8_acceptRanges), ("unicode/utf8.first", laid_unicode_utf8_first)], narrowed := true }
def SchedPlansUptoSaid : Prop := schedPlansUptoRow.holds Tryz.pinned (OpenSpec.upto schedPlansSpec)

/-- 'gafferlaw12.SchedAll', WHERE WHAT IT READS IS OF BULK AT MOST 1048576: true; the input reads as it did. -/
def schedAllUptoRow : OpenClaim := { program := "ytmmokaockpghaaagreatdoor", sum := "668b7c8a2b1bba6beee8eef584080c3936d68f4709a43657214c2f4d29cac926", func := "gaffer/gafferlaw12.SchedAll", spec := "schedAll", inPlace := ["internal/bytealg.IndexByteString", "internal/bytealg.IndexString", "slices.overlaps[gaffer/api.Node]", "slices.overlaps[gaffer/api.Task]", "slices.overlaps[gaffer/api.Bind]"], unfollowed := true, recurses := true, named := ["unicode/utf8.first", "unicode/utf8.acceptRanges", "internal/bytealg.MaxLen"], apart := false, laid := [("unicode/utf8.acceptRanges", laid_unicode_utf8_acceptRanges), ("unicode/utf8.first", laid_unicode_utf8_first)], narrowed := true }
def SchedAllUptoSaid : Prop := schedAllUptoRow.holds Tryz.pinned (OpenSpec.upto schedAllSpec)

/-- 'gafferlaw12.SchedEnds', WHERE WHAT IT READS IS OF BULK AT MOST 1048576: true; the input reads as it did. -/
def schedEndsUptoRow : OpenClaim := { program := "ytmmokaockpghaaagreatdoor", sum := "668b7c8a2b1bba6beee8eef584080c3936d68f4709a43657214c2f4d29cac926", func := "gaffer/gafferlaw12.SchedEnds", spec := "schedEnds", inPlace := ["internal/bytealg.IndexByteString", "internal/bytealg.IndexString", "slices.overlaps[gaffer/api.Node]", "slices.overlaps[gaffer/api.Task]", "slices.overlaps[gaffer/api.Bind]"], unfollowed := true, recurses := true, named := ["unicode/utf8.first", "unicode/utf8.acceptRanges", "internal/bytealg.MaxLen"], apart := false, laid := [("unicode/utf8.acceptRanges", laid_unicode_utf8_acceptRanges), ("unicode/utf8.first", laid_unicode_utf8_first)], narrowed := true }
def SchedEndsUptoSaid : Prop := schedEndsUptoRow.holds Tryz.pinned (OpenSpec.upto schedEndsSpec)

/-- 'gafferlaw12.SchedFirst', WHERE WHAT IT READS IS OF BULK AT MOST 1048576: true; the input reads as it did. -/
def schedFirstUptoRow : OpenClaim := { program := "ytmmokaockpghaaagreatdoor", sum := "668b7c8a2b1bba6beee8eef584080c3936d68f4709a43657214c2f4d29cac926", func := "gaffer/gafferlaw12.SchedFirst", spec := "schedFirst", inPlace := ["internal/bytealg.IndexByteString", "internal/bytealg.IndexString", "slices.overlaps[gaffer/api.Node]", "slices.overlaps[gaffer/api.Task]", "slices.overlaps[gaffer/api.Bind]"], unfollowed := true, recurses := true, named := ["unicode/utf8.first", "unicode/utf8.acceptRanges", "internal/bytealg.MaxLen"], apart := false, laid := [("unicode/utf8.acceptRanges", laid_unicode_utf8_acceptRanges), ("unicode/utf8.first", laid_unicode_utf8_first)], narrowed := true }
def SchedFirstUptoSaid : Prop := schedFirstUptoRow.holds Tryz.pinned (OpenSpec.upto schedFirstSpec)

/-- 'gafferlaw12.SchedFence', WHERE WHAT IT READS IS OF BULK AT MOST 1048576: true; the input reads as it did. -/
def schedFenceUptoRow : OpenClaim := { program := "ytmmokaockpghaaagreatdoor", sum := "668b7c8a2b1bba6beee8eef584080c3936d68f4709a43657214c2f4d29cac926", func := "gaffer/gafferlaw12.SchedFence", spec := "schedFence", inPlace := ["internal/bytealg.IndexByteString", "internal/bytealg.IndexString", "slices.overlaps[gaffer/api.Node]", "slices.overlaps[gaffer/api.Task]", "slices.overlaps[gaffer/api.Bind]"], unfollowed := true, recurses := true, named := ["unicode/utf8.first", "unicode/utf8.acceptRanges", "internal/bytealg.MaxLen"], apart := false, laid := [("unicode/utf8.acceptRanges", laid_unicode_utf8_acceptRanges), ("unicode/utf8.first", laid_unicode_utf8_first)], narrowed := true }
def SchedFenceUptoSaid : Prop := schedFenceUptoRow.holds Tryz.pinned (OpenSpec.upto schedFenceSpec)

/-- 'gaffertop.TopFull', WHERE WHAT IT READS IS OF BULK AT MOST 1048576: true; the input reads as it did. -/
def topFullUptoRow : OpenClaim := { program := "ytmmokaockpghaaagreatdoor", sum := "668b7c8a2b1bba6beee8eef584080c3936d68f4709a43657214c2f4d29cac926", func := "gaffer/gaffertop.TopFull", spec := "topFull", inPlace := ["slices.overlaps[gaffer/api.File]", "internal/bytealg.IndexByteString", "internal/bytealg.IndexString", "slices.overlaps[gaffer/api.Node]", "slices.overlaps[gaffer/api.Task]", "slices.overlaps[gaffer/api.Bind]"], unfollowed := true, recurses := true, named := ["unicode/utf8.first", "unicode/utf8.acceptRanges", "internal/bytealg.MaxLen"], apart := false, laid := [("unicode/utf8.acceptRanges", laid_unicode_utf8_acceptRanges), ("unicode/utf8.first", laid_unicode_utf8_first)], narrowed := true }
def TopFullUptoSaid : Prop := topFullUptoRow.holds Tryz.pinned (OpenSpec.upto topFullSpec)

end Rows
end Go.Proofs.YtmmokaockpghaaaGreatDoor
