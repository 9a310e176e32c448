/-
  NARROWER THAN 'FOR EVERY INPUT', by the rows' own cells (each row's printed sentence says how): AztecRoundTrip: laid · AztecCorrects: laid · AztecSides: laid · AztecEncodes: laid · AztecGeometry: laid · AztecSmallest: laid · AztecModes: laid · AztecDecodes: laid.
  DERIVED. THE GIVEN ROWS OF THIS SEAT. 8 by the template 'for every input the law returns true; each argument reads behind the call as it read before'; 0 by the template 'total and deterministic' (their statements: YtmnlkganmgcpbaaGreatDoorTotals.lean).
  GIVEN WITH THE SEED: the statements are not yours to turn. If you find one false, say at which input.
  Laid BY PROGRAM, IN A SANDBOX (cutbox-rows.mjs): the forced cells as the released guide's own fill.sh prints them over the translation 0c8c512112258c35… (all of the seat's roots in one cut). By AI agents, Wed Nov 11 2026. No macro, syntax, notation, axiom, sorry.
-/
import Derived.Test.YtmnlkganmgcpbaaGreatDoorChecked
import GoSem.PinnedTables
import GoSem.Claim
import GoSem.ClaimJoined
import GoSem.ClaimMapViews
import Derived.JoinedTies
import Derived.KernelRfl
namespace Go.Proofs.YtmnlkganmgcpbaaGreatDoor
/- THE CELL 'sum', in the pinned program and in every row, IS THE sha256 OF THE DUMP (.gsa) THAT YtmnlkganmgcpbaaGreatDoorProg.lean LOADS. Nothing in Lean hashes anything: it is a label: what it is worth is what the hold of that sum in a sandbox is worth. -/
noncomputable def Tryz.pinned : Pinned := { name := "ytmnlkganmgcpbaagreatdoor", sum := "0c8c512112258c35a6da378c0d3ffe239f5553bc69876882d9ae920b976ed1a9", checked := Tryz.checked }
namespace Rows
def none {H : Type} : Left H := { results := [], args := [] }

/- WHAT THE LISTED PACKAGE-LEVEL VARIABLES READ AS WHEN THE CALL BEGINS. Each datum BY PROGRAM (the guide's laid-datum.mjs) off the statement by which the dump's own 'gosem.cut.vars' lays the variable. In a bare row this is a premise. The card (YtmnlkganmgcpbaaGreatDoorCards.lean) ties it to the program's text. -/
def laid_unicode_utf8_acceptRanges {H : Type} : DataW H := .agg [.agg [.lit (.int .u8 128), .lit (.int .u8 191)], .agg [.lit (.int .u8 160), .lit (.int .u8 191)], .agg [.lit (.int .u8 128), .lit (.int .u8 159)], .agg [.lit (.int .u8 144), .lit (.int .u8 191)], .agg [.lit (.int .u8 128), .lit (.int .u8 143)], .agg [.lit (.int .u8 0), .lit (.int .u8 0)], .agg [.lit (.int .u8 0), .lit (.int .u8 0)], .agg [.lit (.int .u8 0), .lit (.int .u8 0)], .agg [.lit (.int .u8 0), .lit (.int .u8 0)], .agg [.lit (.int .u8 0), .lit (.int .u8 0)], .agg [.lit (.int .u8 0), .lit (.int .u8 0)], .agg [.lit (.int .u8 0), .lit (.int .u8 0)], .agg [.lit (.int .u8 0), .lit (.int .u8 0)], .agg [.lit (.int .u8 0), .lit (.int .u8 0)], .agg [.lit (.int .u8 0), .lit (.int .u8 0)], .agg [.lit (.int .u8 0), .lit (.int .u8 0)]]
/-- One of Go's own tables, pinned by name: the form's constant. -/
def laid_unicode_utf8_first : DataW Unit := Go.Pinned.utf8First

/-- 'barscanlaw28.AztecRoundTrip': WHATEVER THE INPUT: true; the input reads as it did. -/
def aztecRoundTripSpec : ChangeSpec := { name := "aztecRoundTrip", fn := fun _ => fun
  | [d1, d2] => { results := [.lit (.bool true)], args := [d1, d2] }
  | _ => none }
def aztecRoundTripRow : OpenClaim := { program := "ytmnlkganmgcpbaagreatdoor", sum := "0c8c512112258c35a6da378c0d3ffe239f5553bc69876882d9ae920b976ed1a9", func := "barscan/barscanlaw28.AztecRoundTrip", spec := "aztecRoundTrip", inPlace := ["internal/bytealg.CountString", "internal/bytealg.IndexByteString", "internal/bytealg.IndexString"], unfollowed := true, recurses := true, named := ["unicode/utf8.first", "unicode/utf8.acceptRanges", "internal/bytealg.MaxLen"], plainKeys := false, apart := false, laid := [("unicode/utf8.acceptRanges", laid_unicode_utf8_acceptRanges), ("unicode/utf8.first", laid_unicode_utf8_first)] }
def AztecRoundTripSaid : Prop := aztecRoundTripRow.holds Tryz.pinned (OpenSpec.ofChange aztecRoundTripSpec)

/-- ITS FALSE NEIGHBOUR: 'it returns false'. Refute it at one input. -/
def aztecRoundTripWrong : ChangeSpec := { name := "aztecRoundTrip", fn := fun _ => fun
  | [d1, d2] => { results := [.lit (.bool false)], args := [d1, d2] }
  | _ => none }
def AztecRoundTripWrongFalsely : Prop := aztecRoundTripRow.holds Tryz.pinned (OpenSpec.ofChange aztecRoundTripWrong)

/-- 'barscanlaw28.AztecCorrects': WHATEVER THE INPUT: true; the input reads as it did. -/
def aztecCorrectsSpec : ChangeSpec := { name := "aztecCorrects", fn := fun _ => fun
  | [d1, d2, d3] => { results := [.lit (.bool true)], args := [d1, d2, d3] }
  | _ => none }
def aztecCorrectsRow : OpenClaim := { program := "ytmnlkganmgcpbaagreatdoor", sum := "0c8c512112258c35a6da378c0d3ffe239f5553bc69876882d9ae920b976ed1a9", func := "barscan/barscanlaw28.AztecCorrects", spec := "aztecCorrects", inPlace := ["internal/bytealg.CountString", "internal/bytealg.IndexByteString", "internal/bytealg.IndexString"], unfollowed := true, recurses := true, named := ["unicode/utf8.first", "unicode/utf8.acceptRanges", "internal/bytealg.MaxLen"], plainKeys := false, apart := false, laid := [("unicode/utf8.acceptRanges", laid_unicode_utf8_acceptRanges), ("unicode/utf8.first", laid_unicode_utf8_first)] }
def AztecCorrectsSaid : Prop := aztecCorrectsRow.holds Tryz.pinned (OpenSpec.ofChange aztecCorrectsSpec)

/-- ITS FALSE NEIGHBOUR: 'it returns false'. Refute it at one input. -/
def aztecCorrectsWrong : ChangeSpec := { name := "aztecCorrects", fn := fun _ => fun
  | [d1, d2, d3] => { results := [.lit (.bool false)], args := [d1, d2, d3] }
  | _ => none }
def AztecCorrectsWrongFalsely : Prop := aztecCorrectsRow.holds Tryz.pinned (OpenSpec.ofChange aztecCorrectsWrong)

/-- 'barscanlaw28.AztecSides': WHATEVER THE INPUT: true; the input reads as it did. -/
def aztecSidesSpec : ChangeSpec := { name := "aztecSides", fn := fun _ => fun
  | [d1, d2] => { results := [.lit (.bool true)], args := [d1, d2] }
  | _ => none }
def aztecSidesRow : OpenClaim := { program := "ytmnlkganmgcpbaagreatdoor", sum := "0c8c512112258c35a6da378c0d3ffe239f5553bc69876882d9ae920b976ed1a9", func := "barscan/barscanlaw28.AztecSides", spec := "aztecSides", inPlace := ["internal/bytealg.CountString", "internal/bytealg.IndexByteString", "internal/bytealg.IndexString"], unfollowed := true, recurses := true, named := ["unicode/utf8.first", "unicode/utf8.acceptRanges", "internal/bytealg.MaxLen"], plainKeys := false, apart := false, laid := [("unicode/utf8.acceptRanges", laid_unicode_utf8_acceptRanges), ("unicode/utf8.first", laid_unicode_utf8_first)] }
def AztecSidesSaid : Prop := aztecSidesRow.holds Tryz.pinned (OpenSpec.ofChange aztecSidesSpec)

/-- ITS FALSE NEIGHBOUR: 'it returns false'. Refute it at one input. -/
def aztecSidesWrong : ChangeSpec := { name := "aztecSides", fn := fun _ => fun
  | [d1, d2] => { results := [.lit (.bool false)], args := [d1, d2] }
  | _ => none }
def AztecSidesWrongFalsely : Prop := aztecSidesRow.holds Tryz.pinned (OpenSpec.ofChange aztecSidesWrong)

/-- 'barscanlaw28.AztecEncodes': WHATEVER THE INPUT: true; the input reads as it did. -/
def aztecEncodesSpec : ChangeSpec := { name := "aztecEncodes", fn := fun _ => fun
  | [d1, d2] => { results := [.lit (.bool true)], args := [d1, d2] }
  | _ => none }
def aztecEncodesRow : OpenClaim := { program := "ytmnlkganmgcpbaagreatdoor", sum := "0c8c512112258c35a6da378c0d3ffe239f5553bc69876882d9ae920b976ed1a9", func := "barscan/barscanlaw28.AztecEncodes", spec := "aztecEncodes", inPlace := ["internal/bytealg.CountString", "internal/bytealg.IndexByteString", "internal/bytealg.IndexString"], unfollowed := true, recurses := true, named := ["unicode/utf8.first", "unicode/utf8.acceptRanges", "internal/bytealg.MaxLen"], plainKeys := false, apart := false, laid := [("unicode/utf8.acceptRanges", laid_unicode_utf8_acceptRanges), ("unicode/utf8.first", laid_unicode_utf8_first)] }
def AztecEncodesSaid : Prop := aztecEncodesRow.holds Tryz.pinned (OpenSpec.ofChange aztecEncodesSpec)

/-- ITS FALSE NEIGHBOUR: 'it returns false'. Refute it at one input. -/
def aztecEncodesWrong : ChangeSpec := { name := "aztecEncodes", fn := fun _ => fun
  | [d1, d2] => { results := [.lit (.bool false)], args := [d1, d2] }
  | _ => none }
def AztecEncodesWrongFalsely : Prop := aztecEncodesRow.holds Tryz.pinned (OpenSpec.ofChange aztecEncodesWrong)

/-- 'barscanlaw28.AztecGeometry': WHATEVER THE INPUT: true; the input reads as it did. -/
def aztecGeometrySpec : ChangeSpec := { name := "aztecGeometry", fn := fun _ => fun
  | [d1, d2] => { results := [.lit (.bool true)], args := [d1, d2] }
  | _ => none }
def aztecGeometryRow : OpenClaim := { program := "ytmnlkganmgcpbaagreatdoor", sum := "0c8c512112258c35a6da378c0d3ffe239f5553bc69876882d9ae920b976ed1a9", func := "barscan/barscanlaw28.AztecGeometry", spec := "aztecGeometry", inPlace := ["internal/bytealg.CountString", "internal/bytealg.IndexByteString", "internal/bytealg.IndexString"], unfollowed := true, recurses := true, named := ["unicode/utf8.first", "unicode/utf8.acceptRanges", "internal/bytealg.MaxLen"], plainKeys := false, apart := false, laid := [("unicode/utf8.acceptRanges", laid_unicode_utf8_acceptRanges), ("unicode/utf8.first", laid_unicode_utf8_first)] }
def AztecGeometrySaid : Prop := aztecGeometryRow.holds Tryz.pinned (OpenSpec.ofChange aztecGeometrySpec)

/-- ITS FALSE NEIGHBOUR: 'it returns false'. Refute it at one input. -/
def aztecGeometryWrong : ChangeSpec := { name := "aztecGeometry", fn := fun _ => fun
  | [d1, d2] => { results := [.lit (.bool false)], args := [d1, d2] }
  | _ => none }
def AztecGeometryWrongFalsely : Prop := aztecGeometryRow.holds Tryz.pinned (OpenSpec.ofChange aztecGeometryWrong)

/-- 'barscanlaw28.AztecSmallest': WHATEVER THE INPUT: true; the input reads as it did. -/
def aztecSmallestSpec : ChangeSpec := { name := "aztecSmallest", fn := fun _ => fun
  | [d1, d2, d3] => { results := [.lit (.bool true)], args := [d1, d2, d3] }
  | _ => none }
def aztecSmallestRow : OpenClaim := { program := "ytmnlkganmgcpbaagreatdoor", sum := "0c8c512112258c35a6da378c0d3ffe239f5553bc69876882d9ae920b976ed1a9", func := "barscan/barscanlaw28.AztecSmallest", spec := "aztecSmallest", inPlace := ["internal/bytealg.CountString", "internal/bytealg.IndexByteString", "internal/bytealg.IndexString"], unfollowed := true, recurses := true, named := ["unicode/utf8.first", "unicode/utf8.acceptRanges", "internal/bytealg.MaxLen"], plainKeys := false, apart := false, laid := [("unicode/utf8.acceptRanges", laid_unicode_utf8_acceptRanges), ("unicode/utf8.first", laid_unicode_utf8_first)] }
def AztecSmallestSaid : Prop := aztecSmallestRow.holds Tryz.pinned (OpenSpec.ofChange aztecSmallestSpec)

/-- ITS FALSE NEIGHBOUR: 'it returns false'. Refute it at one input. -/
def aztecSmallestWrong : ChangeSpec := { name := "aztecSmallest", fn := fun _ => fun
  | [d1, d2, d3] => { results := [.lit (.bool false)], args := [d1, d2, d3] }
  | _ => none }
def AztecSmallestWrongFalsely : Prop := aztecSmallestRow.holds Tryz.pinned (OpenSpec.ofChange aztecSmallestWrong)

/-- 'barscanlaw28.AztecModes': WHATEVER THE INPUT: true; the input reads as it did. -/
def aztecModesSpec : ChangeSpec := { name := "aztecModes", fn := fun _ => fun
  | [d1, d2, d3, d4] => { results := [.lit (.bool true)], args := [d1, d2, d3, d4] }
  | _ => none }
def aztecModesRow : OpenClaim := { program := "ytmnlkganmgcpbaagreatdoor", sum := "0c8c512112258c35a6da378c0d3ffe239f5553bc69876882d9ae920b976ed1a9", func := "barscan/barscanlaw28.AztecModes", spec := "aztecModes", inPlace := ["internal/bytealg.CountString", "internal/bytealg.IndexByteString", "internal/bytealg.IndexString"], unfollowed := true, recurses := true, named := ["unicode/utf8.first", "unicode/utf8.acceptRanges", "internal/bytealg.MaxLen"], plainKeys := false, apart := false, laid := [("unicode/utf8.acceptRanges", laid_unicode_utf8_acceptRanges), ("unicode/utf8.first", laid_unicode_utf8_first)] }
def AztecModesSaid : Prop := aztecModesRow.holds Tryz.pinned (OpenSpec.ofChange aztecModesSpec)

/-- ITS FALSE NEIGHBOUR: 'it returns false'. Refute it at one input. -/
def aztecModesWrong : ChangeSpec := { name := "aztecModes", fn := fun _ => fun
  | [d1, d2, d3, d4] => { results := [.lit (.bool false)], args := [d1, d2, d3, d4] }
  | _ => none }
def AztecModesWrongFalsely : Prop := aztecModesRow.holds Tryz.pinned (OpenSpec.ofChange aztecModesWrong)

/-- 'barscanlaw28.AztecDecodes': WHATEVER THE INPUT: true; the input reads as it did. -/
def aztecDecodesSpec : ChangeSpec := { name := "aztecDecodes", fn := fun _ => fun
  | [d] => { results := [.lit (.bool true)], args := [d] }
  | _ => none }
def aztecDecodesRow : OpenClaim := { program := "ytmnlkganmgcpbaagreatdoor", sum := "0c8c512112258c35a6da378c0d3ffe239f5553bc69876882d9ae920b976ed1a9", func := "barscan/barscanlaw28.AztecDecodes", spec := "aztecDecodes", inPlace := ["internal/bytealg.CountString", "internal/bytealg.IndexByteString", "internal/bytealg.IndexString"], unfollowed := true, recurses := true, named := ["unicode/utf8.first", "unicode/utf8.acceptRanges", "internal/bytealg.MaxLen"], plainKeys := false, apart := false, laid := [("unicode/utf8.acceptRanges", laid_unicode_utf8_acceptRanges), ("unicode/utf8.first", laid_unicode_utf8_first)] }
def AztecDecodesSaid : Prop := aztecDecodesRow.holds Tryz.pinned (OpenSpec.ofChange aztecDecodesSpec)

/-- ITS FALSE NEIGHBOUR: 'it returns false'. Refute it at one input. -/
def aztecDecodesWrong : ChangeSpec := { name := "aztecDecodes", fn := fun _ => fun
  | [d] => { results := [.lit (.bool false)], args := [d] }
  | _ => none }
def AztecDecodesWrongFalsely : Prop := aztecDecodesRow.holds Tryz.pinned (OpenSpec.ofChange aztecDecodesWrong)

/- THE SECOND FORM. 'bulk': how many values and letters a reading holds, each counted each time it is reached (what is shared counts as often as it is met; a slice's spare places count too). A statement '..UptoSaid' is the law's where the arguments, and the package variables that the reading takes, are together of bulk at most 1048576: NARROWER than '..Said'. Prove '..Said' where nothing that the law and all that it calls make is longer than what came in: it says more and counts as full. Else prove '..UptoSaid'. A law counts once. -/
mutual
def uptoBulk {H : Type} : DataW H → Nat
  | .lit (.string bytes) => bytes.length + 1
  | .lit _ => 1
  | .nil => 1
  | .ptr d => uptoBulk d + 1
  | .slice elems spare => uptoBulkAll elems + uptoBulkAll spare + 1
  | .agg parts => uptoBulkAll parts + 1
  | .iface _ d => uptoBulk d + 1
  | .map entries => uptoBulkEntries entries + 1
  | .held _ => 1
def uptoBulkAll {H : Type} : List (DataW H) → Nat
  | [] => 0
  | d :: r => uptoBulk d + uptoBulkAll r
def uptoBulkEntries {H : Type} : List (Lit × DataW H) → Nat
  | [] => 0
  | x :: r => uptoBulkEntry x + uptoBulkEntries r
def uptoBulkEntry {H : Type} : Lit × DataW H → Nat
  | (.string bytes, d) => bytes.length + uptoBulk d + 1
  | (_, d) => uptoBulk d + 1
 end
def uptoSmall : (H : Type) → List (DataW H) → Bool := fun _ ds => decide (uptoBulkAll ds ≤ 1048576)
def OpenSpec.upto (s : _root_.Go.ChangeSpec) : _root_.Go.OpenSpec := { _root_.Go.OpenSpec.ofChange s with cond := some uptoSmall }

/-- 'barscanlaw28.AztecRoundTrip', WHERE WHAT IT READS IS OF BULK AT MOST 1048576: true; the input reads as it did. -/
def aztecRoundTripUptoRow : OpenClaim := { program := "ytmnlkganmgcpbaagreatdoor", sum := "0c8c512112258c35a6da378c0d3ffe239f5553bc69876882d9ae920b976ed1a9", func := "barscan/barscanlaw28.AztecRoundTrip", spec := "aztecRoundTrip", inPlace := ["internal/bytealg.CountString", "internal/bytealg.IndexByteString", "internal/bytealg.IndexString"], unfollowed := true, recurses := true, named := ["unicode/utf8.first", "unicode/utf8.acceptRanges", "internal/bytealg.MaxLen"], plainKeys := false, apart := false, laid := [("unicode/utf8.acceptRanges", laid_unicode_utf8_acceptRanges), ("unicode/utf8.first", laid_unicode_utf8_first)], narrowed := true }
def AztecRoundTripUptoSaid : Prop := aztecRoundTripUptoRow.holds Tryz.pinned (OpenSpec.upto aztecRoundTripSpec)

/-- 'barscanlaw28.AztecCorrects', WHERE WHAT IT READS IS OF BULK AT MOST 1048576: true; the input reads as it did. -/
def aztecCorrectsUptoRow : OpenClaim := { program := "ytmnlkganmgcpbaagreatdoor", sum := "0c8c512112258c35a6da378c0d3ffe239f5553bc69876882d9ae920b976ed1a9", func := "barscan/barscanlaw28.AztecCorrects", spec := "aztecCorrects", inPlace := ["internal/bytealg.CountString", "internal/bytealg.IndexByteString", "internal/bytealg.IndexString"], unfollowed := true, recurses := true, named := ["unicode/utf8.first", "unicode/utf8.acceptRanges", "internal/bytealg.MaxLen"], plainKeys := false, apart := false, laid := [("unicode/utf8.acceptRanges", laid_unicode_utf8_acceptRanges), ("unicode/utf8.first", laid_unicode_utf8_first)], narrowed := true }
def AztecCorrectsUptoSaid : Prop := aztecCorrectsUptoRow.holds Tryz.pinned (OpenSpec.upto aztecCorrectsSpec)

/-- 'barscanlaw28.AztecSides', WHERE WHAT IT READS IS OF BULK AT MOST 1048576: true; the input reads as it did. -/
def aztecSidesUptoRow : OpenClaim := { program := "ytmnlkganmgcpbaagreatdoor", sum := "0c8c512112258c35a6da378c0d3ffe239f5553bc69876882d9ae920b976ed1a9", func := "barscan/barscanlaw28.AztecSides", spec := "aztecSides", inPlace := ["internal/bytealg.CountString", "internal/bytealg.IndexByteString", "internal/bytealg.IndexString"], unfollowed := true, recurses := true, named := ["unicode/utf8.first", "unicode/utf8.acceptRanges", "internal/bytealg.MaxLen"], plainKeys := false, apart := false, laid := [("unicode/utf8.acceptRanges", laid_unicode_utf8_acceptRanges), ("unicode/utf8.first", laid_unicode_utf8_first)], narrowed := true }
def AztecSidesUptoSaid : Prop := aztecSidesUptoRow.holds Tryz.pinned (OpenSpec.upto aztecSidesSpec)

/-- 'barscanlaw28.AztecEncodes', WHERE WHAT IT READS IS OF BULK AT MOST 1048576: true; the input reads as it did. -/
def aztecEncodesUptoRow : OpenClaim := { program := "ytmnlkganmgcpbaagreatdoor", sum := "0c8c512112258c35a6da378c0d3ffe239f5553bc69876882d9ae920b976ed1a9", func := "barscan/barscanlaw28.AztecEncodes", spec := "aztecEncodes", inPlace := ["internal/bytealg.CountString", "internal/bytealg.IndexByteString", "internal/bytealg.IndexString"], unfollowed := true, recurses := true, named := ["unicode/utf8.first", "unicode/utf8.acceptRanges", "internal/bytealg.MaxLen"], plainKeys := false, apart := false, laid := [("unicode/utf8.acceptRanges", laid_unicode_utf8_acceptRanges), ("unicode/utf8.first", laid_unicode_utf8_first)], narrowed := true }
def AztecEncodesUptoSaid : Prop := aztecEncodesUptoRow.holds Tryz.pinned (OpenSpec.upto aztecEncodesSpec)

/-- 'barscanlaw28.AztecGeometry', WHERE WHAT IT READS IS OF BULK AT MOST 1048576: true; the input reads as it did. -/
def aztecGeometryUptoRow : OpenClaim := { program := "ytmnlkganmgcpbaagreatdoor", sum := "0c8c512112258c35a6da378c0d3ffe239f5553bc69876882d9ae920b976ed1a9", func := "barscan/barscanlaw28.AztecGeometry", spec := "aztecGeometry", inPlace := ["internal/bytealg.CountString", "internal/bytealg.IndexByteString", "internal/bytealg.IndexString"], unfollowed := true, recurses := true, named := ["unicode/utf8.first", "unicode/utf8.acceptRanges", "internal/bytealg.MaxLen"], plainKeys := false, apart := false, laid := [("unicode/utf8.acceptRanges", laid_unicode_utf8_acceptRanges), ("unicode/utf8.first", laid_unicode_utf8_first)], narrowed := true }
def AztecGeometryUptoSaid : Prop := aztecGeometryUptoRow.holds Tryz.pinned (OpenSpec.upto aztecGeometrySpec)

/-- 'barscanlaw28.AztecSmallest', WHERE WHAT IT READS IS OF BULK AT MOST 1048576: true; the input reads as it did. -/
def aztecSmallestUptoRow : OpenClaim := { program := "ytmnlkganmgcpbaagreatdoor", sum := "0c8c512112258c35a6da378c0d3ffe239f5553bc69876882d9ae920b976ed1a9", func := "barscan/barscanlaw28.AztecSmallest", spec := "aztecSmallest", inPlace := ["internal/bytealg.CountString", "internal/bytealg.IndexByteString", "internal/bytealg.IndexString"], unfollowed := true, recurses := true, named := ["unicode/utf8.first", "unicode/utf8.acceptRanges", "internal/bytealg.MaxLen"], plainKeys := false, apart := false, laid := [("unicode/utf8.acceptRanges", laid_unicode_utf8_acceptRanges), ("unicode/utf8.first", laid_unicode_utf8_first)], narrowed := true }
def AztecSmallestUptoSaid : Prop := aztecSmallestUptoRow.holds Tryz.pinned (OpenSpec.upto aztecSmallestSpec)

/-- 'barscanlaw28.AztecModes', WHERE WHAT IT READS IS OF BULK AT MOST 1048576: true; the input reads as it did. -/
def aztecModesUptoRow : OpenClaim := { program := "ytmnlkganmgcpbaagreatdoor", sum := "0c8c512112258c35a6da378c0d3ffe239f5553bc69876882d9ae920b976ed1a9", func := "barscan/barscanlaw28.AztecModes", spec := "aztecModes", inPlace := ["internal/bytealg.CountString", "internal/bytealg.IndexByteString", "internal/bytealg.IndexString"], unfollowed := true, recurses := true, named := ["unicode/utf8.first", "unicode/utf8.acceptRanges", "internal/bytealg.MaxLen"], plainKeys := false, apart := false, laid := [("unicode/utf8.acceptRanges", laid_unicode_utf8_acceptRanges), ("unicode/utf8.first", laid_unicode_utf8_first)], narrowed := true }
def AztecModesUptoSaid : Prop := aztecModesUptoRow.holds Tryz.pinned (OpenSpec.upto aztecModesSpec)

/-- 'barscanlaw28.AztecDecodes', WHERE WHAT IT READS IS OF BULK AT MOST 1048576: true; the input reads as it did. -/
def aztecDecodesUptoRow : OpenClaim := { program := "ytmnlkganmgcpbaagreatdoor", sum := "0c8c512112258c35a6da378c0d3ffe239f5553bc69876882d9ae920b976ed1a9", func := "barscan/barscanlaw28.AztecDecodes", spec := "aztecDecodes", inPlace := ["internal/bytealg.CountString", "internal/bytealg.IndexByteString", "internal/bytealg.IndexString"], unfollowed := true, recurses := true, named := ["unicode/utf8.first", "unicode/utf8.acceptRanges", "internal/bytealg.MaxLen"], plainKeys := false, apart := false, laid := [("unicode/utf8.acceptRanges", laid_unicode_utf8_acceptRanges), ("unicode/utf8.first", laid_unicode_utf8_first)], narrowed := true }
def AztecDecodesUptoSaid : Prop := aztecDecodesUptoRow.holds Tryz.pinned (OpenSpec.upto aztecDecodesSpec)

end Rows
end Go.Proofs.YtmnlkganmgcpbaaGreatDoor
