/-
  NARROWER THAN 'FOR EVERY INPUT', by the rows' own cells (each row's printed sentence says how): ScoreDoes: laid · ScoreBest: laid · ScoreWithin: laid · ScoreTurned: laid · ScoreFuller: laid · ScoreAlone: laid.
  DERIVED. THE GIVEN ROWS OF THIS SEAT. 6 by the template 'for every input the law returns true; each argument reads behind the call as it read before'; 0 by the template 'total and deterministic' (their statements: YtdcblbcidjldmaaDoorTotals.lean).
  GIVEN WITH THE SEED: the statements are not yours to turn. If you find one false, say at which input.
  Laid BY PROGRAM, IN A SANDBOX (cutbox-rows.mjs): the forced cells as the released guide's own fill.sh prints them over the translation 12403d325c6baefd… (all of the seat's roots in one cut). By AI agents, Wed Nov 11 2026. No macro, syntax, notation, axiom, sorry.
-/
import Derived.Test.YtdcblbcidjldmaaDoorChecked
import GoSem.PinnedTables
import GoSem.Claim
import GoSem.ClaimJoined
import GoSem.ClaimMapViews
import Derived.JoinedTies
import Derived.KernelRfl
namespace Go.Proofs.YtdcblbcidjldmaaDoor
/- THE CELL 'sum', in the pinned program and in every row, IS THE sha256 OF THE DUMP (.gsa) THAT YtdcblbcidjldmaaDoorProg.lean LOADS. Nothing in Lean hashes anything: it is a label: what it is worth is what the hold of that sum in a sandbox is worth. -/
noncomputable def Tryd.pinned : Pinned := { name := "ytdcblbcidjldmaadoor", sum := "12403d325c6baefd74bfc7afc60301ff47943f2a22b9766dddb6b7ba85f8f5d2", checked := Tryd.checked }
namespace Rows
def none {H : Type} : Left H := { results := [], args := [] }

/- WHAT THE LISTED PACKAGE-LEVEL VARIABLES READ AS WHEN THE CALL BEGINS. Each datum BY PROGRAM (the guide's laid-datum.mjs) off the statement by which the dump's own 'gosem.cut.vars' lays the variable. In a bare row this is a premise. The card (YtdcblbcidjldmaaDoorCards.lean) ties it to the program's text. -/
def laid_unicode_utf8_acceptRanges {H : Type} : DataW H := .agg [.agg [.lit (.int .u8 128), .lit (.int .u8 191)], .agg [.lit (.int .u8 160), .lit (.int .u8 191)], .agg [.lit (.int .u8 128), .lit (.int .u8 159)], .agg [.lit (.int .u8 144), .lit (.int .u8 191)], .agg [.lit (.int .u8 128), .lit (.int .u8 143)], .agg [.lit (.int .u8 0), .lit (.int .u8 0)], .agg [.lit (.int .u8 0), .lit (.int .u8 0)], .agg [.lit (.int .u8 0), .lit (.int .u8 0)], .agg [.lit (.int .u8 0), .lit (.int .u8 0)], .agg [.lit (.int .u8 0), .lit (.int .u8 0)], .agg [.lit (.int .u8 0), .lit (.int .u8 0)], .agg [.lit (.int .u8 0), .lit (.int .u8 0)], .agg [.lit (.int .u8 0), .lit (.int .u8 0)], .agg [.lit (.int .u8 0), .lit (.int .u8 0)], .agg [.lit (.int .u8 0), .lit (.int .u8 0)], .agg [.lit (.int .u8 0), .lit (.int .u8 0)]]
/-- One of Go's own tables, pinned by name: the form's constant. -/
def laid_unicode_utf8_first : DataW Unit := Go.Pinned.utf8First

/-- 'gafferlaw07.ScoreDoes': WHATEVER THE INPUT: true; the input reads as it did. -/
def scoreDoesSpec : ChangeSpec := { name := "scoreDoes", fn := fun _ => fun
  | [d1, d2] => { results := [.lit (.bool true)], args := [d1, d2] }
  | _ => none }
def scoreDoesRow : OpenClaim := { program := "ytdcblbcidjldmaadoor", sum := "12403d325c6baefd74bfc7afc60301ff47943f2a22b9766dddb6b7ba85f8f5d2", func := "gaffer/gafferlaw07.ScoreDoes", spec := "scoreDoes", inPlace := ["internal/bytealg.IndexByteString", "internal/bytealg.IndexString"], unfollowed := true, recurses := true, named := ["unicode/utf8.first", "unicode/utf8.acceptRanges", "internal/bytealg.MaxLen"], apart := false, laid := [("unicode/utf8.acceptRanges", laid_unicode_utf8_acceptRanges), ("unicode/utf8.first", laid_unicode_utf8_first)] }
def ScoreDoesSaid : Prop := scoreDoesRow.holds Tryd.pinned (OpenSpec.ofChange scoreDoesSpec)

/-- ITS FALSE NEIGHBOUR: 'it returns false'. Refute it at one input. -/
def scoreDoesWrong : ChangeSpec := { name := "scoreDoes", fn := fun _ => fun
  | [d1, d2] => { results := [.lit (.bool false)], args := [d1, d2] }
  | _ => none }
def ScoreDoesWrongFalsely : Prop := scoreDoesRow.holds Tryd.pinned (OpenSpec.ofChange scoreDoesWrong)

/-- 'gafferlaw07.ScoreBest': WHATEVER THE INPUT: true; the input reads as it did. -/
def scoreBestSpec : ChangeSpec := { name := "scoreBest", fn := fun _ => fun
  | [d1, d2] => { results := [.lit (.bool true)], args := [d1, d2] }
  | _ => none }
def scoreBestRow : OpenClaim := { program := "ytdcblbcidjldmaadoor", sum := "12403d325c6baefd74bfc7afc60301ff47943f2a22b9766dddb6b7ba85f8f5d2", func := "gaffer/gafferlaw07.ScoreBest", spec := "scoreBest", inPlace := ["internal/bytealg.IndexByteString", "internal/bytealg.IndexString"], unfollowed := true, recurses := true, named := ["unicode/utf8.first", "unicode/utf8.acceptRanges", "internal/bytealg.MaxLen"], apart := false, laid := [("unicode/utf8.acceptRanges", laid_unicode_utf8_acceptRanges), ("unicode/utf8.first", laid_unicode_utf8_first)] }
def ScoreBestSaid : Prop := scoreBestRow.holds Tryd.pinned (OpenSpec.ofChange scoreBestSpec)

/-- ITS FALSE NEIGHBOUR: 'it returns false'. Refute it at one input. -/
def scoreBestWrong : ChangeSpec := { name := "scoreBest", fn := fun _ => fun
  | [d1, d2] => { results := [.lit (.bool false)], args := [d1, d2] }
  | _ => none }
def ScoreBestWrongFalsely : Prop := scoreBestRow.holds Tryd.pinned (OpenSpec.ofChange scoreBestWrong)

/-- 'gafferlaw07.ScoreWithin': WHATEVER THE INPUT: true; the input reads as it did. -/
def scoreWithinSpec : ChangeSpec := { name := "scoreWithin", fn := fun _ => fun
  | [d1, d2] => { results := [.lit (.bool true)], args := [d1, d2] }
  | _ => none }
def scoreWithinRow : OpenClaim := { program := "ytdcblbcidjldmaadoor", sum := "12403d325c6baefd74bfc7afc60301ff47943f2a22b9766dddb6b7ba85f8f5d2", func := "gaffer/gafferlaw07.ScoreWithin", spec := "scoreWithin", inPlace := ["internal/bytealg.IndexByteString", "internal/bytealg.IndexString"], unfollowed := true, recurses := true, named := ["unicode/utf8.first", "unicode/utf8.acceptRanges", "internal/bytealg.MaxLen"], apart := false, laid := [("unicode/utf8.acceptRanges", laid_unicode_utf8_acceptRanges), ("unicode/utf8.first", laid_unicode_utf8_first)] }
def ScoreWithinSaid : Prop := scoreWithinRow.holds Tryd.pinned (OpenSpec.ofChange scoreWithinSpec)

/-- ITS FALSE NEIGHBOUR: 'it returns false'. Refute it at one input. -/
def scoreWithinWrong : ChangeSpec := { name := "scoreWithin", fn := fun _ => fun
  | [d1, d2] => { results := [.lit (.bool false)], args := [d1, d2] }
  | _ => none }
def ScoreWithinWrongFalsely : Prop := scoreWithinRow.holds Tryd.pinned (OpenSpec.ofChange scoreWithinWrong)

/-- 'gafferlaw07.ScoreTurned': WHATEVER THE INPUT: true; the input reads as it did. -/
def scoreTurnedSpec : ChangeSpec := { name := "scoreTurned", fn := fun _ => fun
  | [d1, d2] => { results := [.lit (.bool true)], args := [d1, d2] }
  | _ => none }
def scoreTurnedRow : OpenClaim := { program := "ytdcblbcidjldmaadoor", sum := "12403d325c6baefd74bfc7afc60301ff47943f2a22b9766dddb6b7ba85f8f5d2", func := "gaffer/gafferlaw07.ScoreTurned", spec := "scoreTurned", inPlace := ["internal/bytealg.IndexByteString", "internal/bytealg.IndexString"], unfollowed := true, recurses := true, named := ["unicode/utf8.first", "unicode/utf8.acceptRanges", "internal/bytealg.MaxLen"], apart := false, laid := [("unicode/utf8.acceptRanges", laid_unicode_utf8_acceptRanges), ("unicode/utf8.first", laid_unicode_utf8_first)] }
def ScoreTurnedSaid : Prop := scoreTurnedRow.holds Tryd.pinned (OpenSpec.ofChange scoreTurnedSpec)

/-- ITS FALSE NEIGHBOUR: 'it returns false'. Refute it at one input. -/
def scoreTurnedWrong : ChangeSpec := { name := "scoreTurned", fn := fun _ => fun
  | [d1, d2] => { results := [.lit (.bool false)], args := [d1, d2] }
  | _ => none }
def ScoreTurnedWrongFalsely : Prop := scoreTurnedRow.holds Tryd.pinned (OpenSpec.ofChange scoreTurnedWrong)

/-- 'gafferlaw07.ScoreFuller': WHATEVER THE INPUT: true; the input reads as it did. -/
def scoreFullerSpec : ChangeSpec := { name := "scoreFuller", fn := fun _ => fun
  | [d1, d2, d3] => { results := [.lit (.bool true)], args := [d1, d2, d3] }
  | _ => none }
def scoreFullerRow : OpenClaim := { program := "ytdcblbcidjldmaadoor", sum := "12403d325c6baefd74bfc7afc60301ff47943f2a22b9766dddb6b7ba85f8f5d2", func := "gaffer/gafferlaw07.ScoreFuller", spec := "scoreFuller", inPlace := ["internal/bytealg.IndexByteString", "internal/bytealg.IndexString"], unfollowed := true, recurses := true, named := ["unicode/utf8.first", "unicode/utf8.acceptRanges", "internal/bytealg.MaxLen"], apart := false, laid := [("unicode/utf8.acceptRanges", laid_unicode_utf8_acceptRanges), ("unicode/utf8.first", laid_unicode_utf8_first)] }
def ScoreFullerSaid : Prop := scoreFullerRow.holds Tryd.pinned (OpenSpec.ofChange scoreFullerSpec)

/-- ITS FALSE NEIGHBOUR: 'it returns false'. Refute it at one input. -/
def scoreFullerWrong : ChangeSpec := { name := "scoreFuller", fn := fun _ => fun
  | [d1, d2, d3] => { results := [.lit (.bool false)], args := [d1, d2, d3] }
  | _ => none }
def ScoreFullerWrongFalsely : Prop := scoreFullerRow.holds Tryd.pinned (OpenSpec.ofChange scoreFullerWrong)

/-- 'gafferlaw07.ScoreAlone': WHATEVER THE INPUT: true; the input reads as it did. -/
def scoreAloneSpec : ChangeSpec := { name := "scoreAlone", fn := fun _ => fun
  | [d1, d2] => { results := [.lit (.bool true)], args := [d1, d2] }
  | _ => none }
def scoreAloneRow : OpenClaim := { program := "ytdcblbcidjldmaadoor", sum := "12403d325c6baefd74bfc7afc60301ff47943f2a22b9766dddb6b7ba85f8f5d2", func := "gaffer/gafferlaw07.ScoreAlone", spec := "scoreAlone", inPlace := ["internal/bytealg.IndexByteString", "internal/bytealg.IndexString"], unfollowed := true, recurses := true, named := ["unicode/utf8.first", "unicode/utf8.acceptRanges", "internal/bytealg.MaxLen"], apart := false, laid := [("unicode/utf8.acceptRanges", laid_unicode_utf8_acceptRanges), ("unicode/utf8.first", laid_unicode_utf8_first)] }
def ScoreAloneSaid : Prop := scoreAloneRow.holds Tryd.pinned (OpenSpec.ofChange scoreAloneSpec)

/-- ITS FALSE NEIGHBOUR: 'it returns false'. Refute it at one input. -/
def scoreAloneWrong : ChangeSpec := { name := "scoreAlone", fn := fun _ => fun
  | [d1, d2] => { results := [.lit (.bool false)], args := [d1, d2] }
  | _ => none }
def ScoreAloneWrongFalsely : Prop := scoreAloneRow.holds Tryd.pinned (OpenSpec.ofChange scoreAloneWrong)

/- THE SECOND FORM. 'bulk': how many values and letters a reading holds, each counted each time it is reached (what is shared counts as often as it is met; a slice's spare places count too). A statement '..UptoSaid' is the law's where the arguments, and the package variables that the reading takes, are together of bulk at most 1048576: NARROWER than '..Said'. Prove '..Said' where nothing that the law and all that it calls make is longer than what came in: it says more and counts as full. Else prove '..UptoSaid'. A law counts once. -/
mutual
def uptoBulk {H : Type} : DataW H → Nat
  | .lit (.string bytes) => bytes.length + 1
  | .lit _ => 1
  | .nil => 1
  | .ptr d => uptoBulk d + 1
  | .slice elems spare => uptoBulkAll elems + uptoBulkAll spare + 1
  | .agg parts => uptoBulkAll parts + 1
  | .iface _ d => uptoBulk d + 1
  | .map entries => uptoBulkEntries entries + 1
  | .held _ => 1
def uptoBulkAll {H : Type} : List (DataW H) → Nat
  | [] => 0
  | d :: r => uptoBulk d + uptoBulkAll r
def uptoBulkEntries {H : Type} : List (Lit × DataW H) → Nat
  | [] => 0
  | x :: r => uptoBulkEntry x + uptoBulkEntries r
def uptoBulkEntry {H : Type} : Lit × DataW H → Nat
  | (.string bytes, d) => bytes.length + uptoBulk d + 1
  | (_, d) => uptoBulk d + 1
 end
def uptoSmall : (H : Type) → List (DataW H) → Bool := fun _ ds => decide (uptoBulkAll ds ≤ 1048576)
def OpenSpec.upto (s : _root_.Go.ChangeSpec) : _root_.Go.OpenSpec := { _root_.Go.OpenSpec.ofChange s with cond := some uptoSmall }

/-- 'gafferlaw07.ScoreDoes', WHERE WHAT IT READS IS OF BULK AT MOST 1048576: true; the input reads as it did. -/
def scoreDoesUptoRow : OpenClaim := { program := "ytdcblbcidjldmaadoor", sum := "12403d325c6baefd74bfc7afc60301ff47943f2a22b9766dddb6b7ba85f8f5d2", func := "gaffer/gafferlaw07.ScoreDoes", spec := "scoreDoes", inPlace := ["internal/bytealg.IndexByteString", "internal/bytealg.IndexString"], unfollowed := true, recurses := true, named := ["unicode/utf8.first", "unicode/utf8.acceptRanges", "internal/bytealg.MaxLen"], apart := false, laid := [("unicode/utf8.acceptRanges", laid_unicode_utf8_acceptRanges), ("unicode/utf8.first", laid_unicode_utf8_first)], narrowed := true }
def ScoreDoesUptoSaid : Prop := scoreDoesUptoRow.holds Tryd.pinned (OpenSpec.upto scoreDoesSpec)

/-- 'gafferlaw07.ScoreBest', WHERE WHAT IT READS IS OF BULK AT MOST 1048576: true; the input reads as it did. -/
def scoreBestUptoRow : OpenClaim := { program := "ytdcblbcidjldmaadoor", sum := "12403d325c6baefd74bfc7afc60301ff47943f2a22b9766dddb6b7ba85f8f5d2", func := "gaffer/gafferlaw07.ScoreBest", spec := "scoreBest", inPlace := ["internal/bytealg.IndexByteString", "internal/bytealg.IndexString"], unfollowed := true, recurses := true, named := ["unicode/utf8.first", "unicode/utf8.acceptRanges", "internal/bytealg.MaxLen"], apart := false, laid := [("unicode/utf8.acceptRanges", laid_unicode_utf8_acceptRanges), ("unicode/utf8.first", laid_unicode_utf8_first)], narrowed := true }
def ScoreBestUptoSaid : Prop := scoreBestUptoRow.holds Tryd.pinned (OpenSpec.upto scoreBestSpec)

/-- 'gafferlaw07.ScoreWithin', WHERE WHAT IT READS IS OF BULK AT MOST 1048576: true; the input reads as it did. -/
def scoreWithinUptoRow : OpenClaim := { program := "ytdcblbcidjldmaadoor", sum := "12403d325c6baefd74bfc7afc60301ff47943f2a22b9766dddb6b7ba85f8f5d2", func := "gaffer/gafferlaw07.ScoreWithin", spec := "scoreWithin", inPlace := ["internal/bytealg.IndexByteString", "internal/bytealg.IndexString"], unfollowed := true, recurses := true, named := ["unicode/utf8.first", "unicode/utf8.acceptRanges", "internal/bytealg.MaxLen"], apart := false, laid := [("unicode/utf8.acceptRanges", laid_unicode_utf8_acceptRanges), ("unicode/utf8.first", laid_unicode_utf8_first)], narrowed := true }
def ScoreWithinUptoSaid : Prop := scoreWithinUptoRow.holds Tryd.pinned (OpenSpec.upto scoreWithinSpec)

/-- 'gafferlaw07.ScoreTurned', WHERE WHAT IT READS IS OF BULK AT MOST 1048576: true; the input reads as it did. -/
def scoreTurnedUptoRow : OpenClaim := { program := "ytdcblbcidjldmaadoor", sum := "12403d325c6baefd74bfc7afc60301ff47943f2a22b9766dddb6b7ba85f8f5d2", func := "gaffer/gafferlaw07.ScoreTurned", spec := "scoreTurned", inPlace := ["internal/bytealg.IndexByteString", "internal/bytealg.IndexString"], unfollowed := true, recurses := true, named := ["unicode/utf8.first", "unicode/utf8.acceptRanges", "internal/bytealg.MaxLen"], apart := false, laid := [("unicode/utf8.acceptRanges", laid_unicode_utf8_acceptRanges), ("unicode/utf8.first", laid_unicode_utf8_first)], narrowed := true }
def ScoreTurnedUptoSaid : Prop := scoreTurnedUptoRow.holds Tryd.pinned (OpenSpec.upto scoreTurnedSpec)

/-- 'gafferlaw07.ScoreFuller', WHERE WHAT IT READS IS OF BULK AT MOST 1048576: true; the input reads as it did. -/
def scoreFullerUptoRow : OpenClaim := { program := "ytdcblbcidjldmaadoor", sum := "12403d325c6baefd74bfc7afc60301ff47943f2a22b9766dddb6b7ba85f8f5d2", func := "gaffer/gafferlaw07.ScoreFuller", spec := "scoreFuller", inPlace := ["internal/bytealg.IndexByteString", "internal/bytealg.IndexString"], unfollowed := true, recurses := true, named := ["unicode/utf8.first", "unicode/utf8.acceptRanges", "internal/bytealg.MaxLen"], apart := false, laid := [("unicode/utf8.acceptRanges", laid_unicode_utf8_acceptRanges), ("unicode/utf8.first", laid_unicode_utf8_first)], narrowed := true }
def ScoreFullerUptoSaid : Prop := scoreFullerUptoRow.holds Tryd.pinned (OpenSpec.upto scoreFullerSpec)

/-- 'gafferlaw07.ScoreAlone', WHERE WHAT IT READS IS OF BULK AT MOST 1048576: true; the input reads as it did. -/
def scoreAloneUptoRow : OpenClaim := { program := "ytdcblbcidjldmaadoor", sum := "12403d325c6baefd74bfc7afc60301ff47943f2a22b9766dddb6b7ba85f8f5d2", func := "gaffer/gafferlaw07.ScoreAlone", spec := "scoreAlone", inPlace := ["internal/bytealg.IndexByteString", "internal/bytealg.IndexString"], unfollowed := true, recurses := true, named := ["unicode/utf8.first", "unicode/utf8.acceptRanges", "internal/bytealg.MaxLen"], apart := false, laid := [("unicode/utf8.acceptRanges", laid_unicode_utf8_acceptRanges), ("unicode/utf8.first", laid_unicode_utf8_first)], narrowed := true }
def ScoreAloneUptoSaid : Prop := scoreAloneUptoRow.holds Tryd.pinned (OpenSpec.upto scoreAloneSpec)

end Rows
end Go.Proofs.YtdcblbcidjldmaaDoor
