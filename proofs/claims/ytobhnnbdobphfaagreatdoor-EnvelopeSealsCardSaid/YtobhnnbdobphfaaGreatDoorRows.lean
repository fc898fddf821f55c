/-
  NARROWER THAN 'FOR EVERY INPUT', by the rows' own cells (each row's printed sentence says how): EnvelopeOpens: laid · EnvelopeSeals: laid · EnvelopeDecodes: laid · EnvelopeHides: laid.
  DERIVED. THE GIVEN ROWS OF THIS SEAT. 4 by the template 'for every input the law returns true; each argument reads behind the call as it read before'; 0 by the template 'total and deterministic' (their statements: YtobhnnbdobphfaaGreatDoorTotals.lean).
  GIVEN WITH THE SEED: the statements are not yours to turn. If you find one false, say at which input.
  Laid BY PROGRAM, IN A SANDBOX (cutbox-rows.mjs): the forced cells as the released guide's own fill.sh prints them over the translation 3a3f867a08342168… (all of the seat's roots in one cut). By AI agents, Wed Nov 11 2026. No macro, syntax, notation, axiom, sorry.
-/
import Derived.Test.YtobhnnbdobphfaaGreatDoorChecked
import GoSem.PinnedTables
import GoSem.Claim
import GoSem.ClaimJoined
import GoSem.ClaimMapViews
import Derived.JoinedTies
import Derived.KernelRfl
namespace Go.Proofs.YtobhnnbdobphfaaGreatDoor
/- THE CELL 'sum', in the pinned program and in every row, IS THE sha256 OF THE DUMP (.gsa) THAT YtobhnnbdobphfaaGreatDoorProg.lean LOADS. Nothing in Lean hashes anything: it is a label: what it is worth is what the hold of that sum in a sandbox is worth. -/
noncomputable def Tryz.pinned : Pinned := { name := "ytobhnnbdobphfaagreatdoor", sum := "3a3f867a083421684288269f5bc7d896331b1a28847b113bee1d4afe10d7237c", checked := Tryz.checked }
namespace Rows
def none {H : Type} : Left H := { results := [], args := [] }

/- WHAT THE LISTED PACKAGE-LEVEL VARIABLES READ AS WHEN THE CALL BEGINS. Each datum BY PROGRAM (the guide's laid-datum.mjs) off the statement by which the dump's own 'gosem.cut.vars' lays the variable. In a bare row this is a premise. The card (YtobhnnbdobphfaaGreatDoorCards.lean) ties it to the program's text. -/
def laid_unicode_utf8_acceptRanges {H : Type} : DataW H := .agg [.agg [.lit (.int .u8 128), .lit (.int .u8 191)], .agg [.lit (.int .u8 160), .lit (.int .u8 191)], .agg [.lit (.int .u8 128), .lit (.int .u8 159)], .agg [.lit (.int .u8 144), .lit (.int .u8 191)], .agg [.lit (.int .u8 128), .lit (.int .u8 143)], .agg [.lit (.int .u8 0), .lit (.int .u8 0)], .agg [.lit (.int .u8 0), .lit (.int .u8 0)], .agg [.lit (.int .u8 0), .lit (.int .u8 0)], .agg [.lit (.int .u8 0), .lit (.int .u8 0)], .agg [.lit (.int .u8 0), .lit (.int .u8 0)], .agg [.lit (.int .u8 0), .lit (.int .u8 0)], .agg [.lit (.int .u8 0), .lit (.int .u8 0)], .agg [.lit (.int .u8 0), .lit (.int .u8 0)], .agg [.lit (.int .u8 0), .lit (.int .u8 0)], .agg [.lit (.int .u8 0), .lit (.int .u8 0)], .agg [.lit (.int .u8 0), .lit (.int .u8 0)]]
/-- One of Go's own tables, pinned by name: the form's constant. -/
def laid_unicode_utf8_first : DataW Unit := Go.Pinned.utf8First

/-- 'bandplanlaw42.EnvelopeOpens': WHATEVER THE INPUT: true; the input reads as it did. -/
def envelopeOpensSpec : ChangeSpec := { name := "envelopeOpens", fn := fun _ => fun
  | [d1, d2] => { results := [.lit (.bool true)], args := [d1, d2] }
  | _ => none }
def envelopeOpensRow : OpenClaim := { program := "ytobhnnbdobphfaagreatdoor", sum := "3a3f867a083421684288269f5bc7d896331b1a28847b113bee1d4afe10d7237c", func := "bandplan/bandplanlaw42.EnvelopeOpens", spec := "envelopeOpens", inPlace := ["internal/bytealg.IndexByteString", "internal/bytealg.IndexString", "slices.overlaps[string]"], unfollowed := true, recurses := true, named := ["unicode/utf8.first", "unicode/utf8.acceptRanges", "internal/bytealg.MaxLen"], plainKeys := false, apart := false, laid := [("unicode/utf8.acceptRanges", laid_unicode_utf8_acceptRanges), ("unicode/utf8.first", laid_unicode_utf8_first)] }
def EnvelopeOpensSaid : Prop := envelopeOpensRow.holds Tryz.pinned (OpenSpec.ofChange envelopeOpensSpec)

/-- ITS FALSE NEIGHBOUR: 'it returns false'. Refute it at one input. -/
def envelopeOpensWrong : ChangeSpec := { name := "envelopeOpens", fn := fun _ => fun
  | [d1, d2] => { results := [.lit (.bool false)], args := [d1, d2] }
  | _ => none }
def EnvelopeOpensWrongFalsely : Prop := envelopeOpensRow.holds Tryz.pinned (OpenSpec.ofChange envelopeOpensWrong)

/-- 'bandplanlaw42.EnvelopeSeals': WHATEVER THE INPUT: true; the input reads as it did. -/
def envelopeSealsSpec : ChangeSpec := { name := "envelopeSeals", fn := fun _ => fun
  | [d1, d2, d3, d4, d5, d6, d7] => { results := [.lit (.bool true)], args := [d1, d2, d3, d4, d5, d6, d7] }
  | _ => none }
def envelopeSealsRow : OpenClaim := { program := "ytobhnnbdobphfaagreatdoor", sum := "3a3f867a083421684288269f5bc7d896331b1a28847b113bee1d4afe10d7237c", func := "bandplan/bandplanlaw42.EnvelopeSeals", spec := "envelopeSeals", inPlace := ["internal/bytealg.IndexByteString", "internal/bytealg.IndexString", "slices.overlaps[string]"], unfollowed := true, recurses := true, named := ["unicode/utf8.first", "unicode/utf8.acceptRanges", "internal/bytealg.MaxLen"], plainKeys := false, apart := false, laid := [("unicode/utf8.acceptRanges", laid_unicode_utf8_acceptRanges), ("unicode/utf8.first", laid_unicode_utf8_first)] }
def EnvelopeSealsSaid : Prop := envelopeSealsRow.holds Tryz.pinned (OpenSpec.ofChange envelopeSealsSpec)

/-- ITS FALSE NEIGHBOUR: 'it returns false'. Refute it at one input. -/
def envelopeSealsWrong : ChangeSpec := { name := "envelopeSeals", fn := fun _ => fun
  | [d1, d2, d3, d4, d5, d6, d7] => { results := [.lit (.bool false)], args := [d1, d2, d3, d4, d5, d6, d7] }
  | _ => none }
def EnvelopeSealsWrongFalsely : Prop := envelopeSealsRow.holds Tryz.pinned (OpenSpec.ofChange envelopeSealsWrong)

/-- 'bandplanlaw42.EnvelopeDecodes': WHATEVER THE INPUT: true; the input reads as it did. -/
def envelopeDecodesSpec : ChangeSpec := { name := "envelopeDecodes", fn := fun _ => fun
  | [d1, d2] => { results := [.lit (.bool true)], args := [d1, d2] }
  | _ => none }
def envelopeDecodesRow : OpenClaim := { program := "ytobhnnbdobphfaagreatdoor", sum := "3a3f867a083421684288269f5bc7d896331b1a28847b113bee1d4afe10d7237c", func := "bandplan/bandplanlaw42.EnvelopeDecodes", spec := "envelopeDecodes", inPlace := ["internal/bytealg.IndexByteString", "internal/bytealg.IndexString", "slices.overlaps[string]"], unfollowed := true, recurses := true, named := ["unicode/utf8.first", "unicode/utf8.acceptRanges", "internal/bytealg.MaxLen"], plainKeys := false, apart := false, laid := [("unicode/utf8.acceptRanges", laid_unicode_utf8_acceptRanges), ("unicode/utf8.first", laid_unicode_utf8_first)] }
def EnvelopeDecodesSaid : Prop := envelopeDecodesRow.holds Tryz.pinned (OpenSpec.ofChange envelopeDecodesSpec)

/-- ITS FALSE NEIGHBOUR: 'it returns false'. Refute it at one input. -/
def envelopeDecodesWrong : ChangeSpec := { name := "envelopeDecodes", fn := fun _ => fun
  | [d1, d2] => { results := [.lit (.bool false)], args := [d1, d2] }
  | _ => none }
def EnvelopeDecodesWrongFalsely : Prop := envelopeDecodesRow.holds Tryz.pinned (OpenSpec.ofChange envelopeDecodesWrong)

/-- 'bandplanlaw42.EnvelopeHides': WHATEVER THE INPUT: true; the input reads as it did. -/
def envelopeHidesSpec : ChangeSpec := { name := "envelopeHides", fn := fun _ => fun
  | [d1, d2, d3, d4, d5, d6, d7, d8] => { results := [.lit (.bool true)], args := [d1, d2, d3, d4, d5, d6, d7, d8] }
  | _ => none }
def envelopeHidesRow : OpenClaim := { program := "ytobhnnbdobphfaagreatdoor", sum := "3a3f867a083421684288269f5bc7d896331b1a28847b113bee1d4afe10d7237c", func := "bandplan/bandplanlaw42.EnvelopeHides", spec := "envelopeHides", inPlace := ["internal/bytealg.IndexByteString", "internal/bytealg.IndexString", "slices.overlaps[string]"], unfollowed := true, recurses := true, named := ["unicode/utf8.first", "unicode/utf8.acceptRanges", "internal/bytealg.MaxLen"], plainKeys := false, apart := false, laid := [("unicode/utf8.acceptRanges", laid_unicode_utf8_acceptRanges), ("unicode/utf8.first", laid_unicode_utf8_first)] }
def EnvelopeHidesSaid : Prop := envelopeHidesRow.holds Tryz.pinned (OpenSpec.ofChange envelopeHidesSpec)

/-- ITS FALSE NEIGHBOUR: 'it returns false'. Refute it at one input. -/
def envelopeHidesWrong : ChangeSpec := { name := "envelopeHides", fn := fun _ => fun
  | [d1, d2, d3, d4, d5, d6, d7, d8] => { results := [.lit (.bool false)], args := [d1, d2, d3, d4, d5, d6, d7, d8] }
  | _ => none }
def EnvelopeHidesWrongFalsely : Prop := envelopeHidesRow.holds Tryz.pinned (OpenSpec.ofChange envelopeHidesWrong)

/- THE SECOND FORM. 'bulk': how many values and letters a reading holds, each counted each time it is reached (what is shared counts as often as it is met; a slice's spare places count too). A statement '..UptoSaid' is the law's where the arguments, and the package variables that the reading takes, are together of bulk at most 1048576: NARROWER than '..Said'. Prove '..Said' where nothing that the law and all that it calls make is longer than what came in: it says more and counts as full. Else prove '..UptoSaid'. A law counts once. -/
mutual
def uptoBulk {H : Type} : DataW H → Nat
  | .lit (.string bytes) => bytes.length + 1
  | .lit _ => 1
  | .nil => 1
  | .ptr d => uptoBulk d + 1
  | .slice elems spare => uptoBulkAll elems + uptoBulkAll spare + 1
  | .agg parts => uptoBulkAll parts + 1
  | .iface _ d => uptoBulk d + 1
  | .map entries => uptoBulkEntries entries + 1
  | .held _ => 1
def uptoBulkAll {H : Type} : List (DataW H) → Nat
  | [] => 0
  | d :: r => uptoBulk d + uptoBulkAll r
def uptoBulkEntries {H : Type} : List (Lit × DataW H) → Nat
  | [] => 0
  | x :: r => uptoBulkEntry x + uptoBulkEntries r
def uptoBulkEntry {H : Type} : Lit × DataW H → Nat
  | (.string bytes, d) => bytes.length + uptoBulk d + 1
  | (_, d) => uptoBulk d + 1
 end
def uptoSmall : (H : Type) → List (DataW H) → Bool := fun _ ds => decide (uptoBulkAll ds ≤ 1048576)
def OpenSpec.upto (s : _root_.Go.ChangeSpec) : _root_.Go.OpenSpec := { _root_.Go.OpenSpec.ofChange s with cond := some uptoSmall }

/-- 'bandplanlaw42.EnvelopeOpens', WHERE WHAT IT READS IS OF BULK AT MOST 1048576: true; the input reads as it did. -/
def envelopeOpensUptoRow : OpenClaim := { program := "ytobhnnbdobphfaagreatdoor", sum := "3a3f867a083421684288269f5bc7d896331b1a28847b113bee1d4afe10d7237c", func := "bandplan/bandplanlaw42.EnvelopeOpens", spec := "envelopeOpens", inPlace := ["internal/bytealg.IndexByteString", "internal/bytealg.IndexString", "slices.overlaps[string]"], unfollowed := true, recurses := true, named := ["unicode/utf8.first", "unicode/utf8.acceptRanges", "internal/bytealg.MaxLen"], plainKeys := false, apart := false, laid := [("unicode/utf8.acceptRanges", laid_unicode_utf8_acceptRanges), ("unicode/utf8.first", laid_unicode_utf8_first)], narrowed := true }
def EnvelopeOpensUptoSaid : Prop := envelopeOpensUptoRow.holds Tryz.pinned (OpenSpec.upto envelopeOpensSpec)

/-- 'bandplanlaw42.EnvelopeSeals', WHERE WHAT IT READS IS OF BULK AT MOST 1048576: true; the input reads as it did. -/
def envelopeSealsUptoRow : OpenClaim := { program := "ytobhnnbdobphfaagreatdoor", sum := "3a3f867a083421684288269f5bc7d896331b1a28847b113bee1d4afe10d7237c", func := "bandplan/bandplanlaw42.EnvelopeSeals", spec := "envelopeSeals", inPlace := ["internal/bytealg.IndexByteString", "internal/bytealg.IndexString", "slices.overlaps[string]"], unfollowed := true, recurses := true, named := ["unicode/utf8.first", "unicode/utf8.acceptRanges", "internal/bytealg.MaxLen"], plainKeys := false, apart := false, laid := [("unicode/utf8.acceptRanges", laid_unicode_utf8_acceptRanges), ("unicode/utf8.first", laid_unicode_utf8_first)], narrowed := true }
def EnvelopeSealsUptoSaid : Prop := envelopeSealsUptoRow.holds Tryz.pinned (OpenSpec.upto envelopeSealsSpec)

/-- 'bandplanlaw42.EnvelopeDecodes', WHERE WHAT IT READS IS OF BULK AT MOST 1048576: true; the input reads as it did. -/
def envelopeDecodesUptoRow : OpenClaim := { program := "ytobhnnbdobphfaagreatdoor", sum := "3a3f867a083421684288269f5bc7d896331b1a28847b113bee1d4afe10d7237c", func := "bandplan/bandplanlaw42.EnvelopeDecodes", spec := "envelopeDecodes", inPlace := ["internal/bytealg.IndexByteString", "internal/bytealg.IndexString", "slices.overlaps[string]"], unfollowed := true, recurses := true, named := ["unicode/utf8.first", "unicode/utf8.acceptRanges", "internal/bytealg.MaxLen"], plainKeys := false, apart := false, laid := [("unicode/utf8.acceptRanges", laid_unicode_utf8_acceptRanges), ("unicode/utf8.first", laid_unicode_utf8_first)], narrowed := true }
def EnvelopeDecodesUptoSaid : Prop := envelopeDecodesUptoRow.holds Tryz.pinned (OpenSpec.upto envelopeDecodesSpec)

/-- 'bandplanlaw42.EnvelopeHides', WHERE WHAT IT READS IS OF BULK AT MOST 1048576: true; the input reads as it did. -/
def envelopeHidesUptoRow : OpenClaim := { program := "ytobhnnbdobphfaagreatdoor", sum := "3a3f867a083421684288269f5bc7d896331b1a28847b113bee1d4afe10d7237c", func := "bandplan/bandplanlaw42.EnvelopeHides", spec := "envelopeHides", inPlace := ["internal/bytealg.IndexByteString", "internal/bytealg.IndexString", "slices.overlaps[string]"], unfollowed := true, recurses := true, named := ["unicode/utf8.first", "unicode/utf8.acceptRanges", "internal/bytealg.MaxLen"], plainKeys := false, apart := false, laid := [("unicode/utf8.acceptRanges", laid_unicode_utf8_acceptRanges), ("unicode/utf8.first", laid_unicode_utf8_first)], narrowed := true }
def EnvelopeHidesUptoSaid : Prop := envelopeHidesUptoRow.holds Tryz.pinned (OpenSpec.upto envelopeHidesSpec)

end Rows
end Go.Proofs.YtobhnnbdobphfaaGreatDoor
