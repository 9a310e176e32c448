/-
  NARROWER THAN 'FOR EVERY INPUT', by the rows' own cells (each row's printed sentence says how): AztextEncodes: laid · AztextDecodes: laid · AztextStuffs: laid · AztextReturns: laid · AztextStuffed: laid · AztextThrough: laid · AztextMinimal: laid · AztextJoins: laid.
  DERIVED. THE GIVEN ROWS OF THIS SEAT. 8 by the template 'for every input the law returns true; each argument reads behind the call as it read before'; 0 by the template 'total and deterministic' (their statements: YtplppbfnlfehnaaDoorTotals.lean).
  GIVEN WITH THE SEED: the statements are not yours to turn. If you find one false, say at which input.
  Laid BY PROGRAM, IN A SANDBOX (cutbox-rows.mjs): the forced cells as the released guide's own fill.sh prints them over the translation a140132781787f3f… (all of the seat's roots in one cut). By AI agents, Wed Nov 11 2026. No macro, syntax, notation, axiom, sorry.
-/
import Derived.Test.YtplppbfnlfehnaaDoorChecked
import GoSem.PinnedTables
import GoSem.Claim
import GoSem.ClaimJoined
import GoSem.ClaimMapViews
import Derived.JoinedTies
import Derived.KernelRfl
namespace Go.Proofs.YtplppbfnlfehnaaDoor
/- THE CELL 'sum', in the pinned program and in every row, IS THE sha256 OF THE DUMP (.gsa) THAT YtplppbfnlfehnaaDoorProg.lean LOADS. Nothing in Lean hashes anything: it is a label: what it is worth is what the hold of that sum in a sandbox is worth. -/
noncomputable def Tryd.pinned : Pinned := { name := "ytplppbfnlfehnaadoor", sum := "a140132781787f3f9ed529a74d44dfbe9b129a13b46344e5e9d1d992a8d7caea", checked := Tryd.checked }
namespace Rows
def none {H : Type} : Left H := { results := [], args := [] }

/- WHAT THE LISTED PACKAGE-LEVEL VARIABLES READ AS WHEN THE CALL BEGINS. Each datum BY PROGRAM (the guide's laid-datum.mjs) off the statement by which the dump's own 'gosem.cut.vars' lays the variable. In a bare row this is a premise. The card (YtplppbfnlfehnaaDoorCards.lean) ties it to the program's text. -/
def laid_unicode_utf8_acceptRanges {H : Type} : DataW H := .agg [.agg [.lit (.int .u8 128), .lit (.int .u8 191)], .agg [.lit (.int .u8 160), .lit (.int .u8 191)], .agg [.lit (.int .u8 128), .lit (.int .u8 159)], .agg [.lit (.int .u8 144), .lit (.int .u8 191)], .agg [.lit (.int .u8 128), .lit (.int .u8 143)], .agg [.lit (.int .u8 0), .lit (.int .u8 0)], .agg [.lit (.int .u8 0), .lit (.int .u8 0)], .agg [.lit (.int .u8 0), .lit (.int .u8 0)], .agg [.lit (.int .u8 0), .lit (.int .u8 0)], .agg [.lit (.int .u8 0), .lit (.int .u8 0)], .agg [.lit (.int .u8 0), .lit (.int .u8 0)], .agg [.lit (.int .u8 0), .lit (.int .u8 0)], .agg [.lit (.int .u8 0), .lit (.int .u8 0)], .agg [.lit (.int .u8 0), .lit (.int .u8 0)], .agg [.lit (.int .u8 0), .lit (.int .u8 0)], .agg [.lit (.int .u8 0), .lit (.int .u8 0)]]
/-- One of Go's own tables, pinned by name: the form's constant. -/
def laid_unicode_utf8_first : DataW Unit := Go.Pinned.utf8First

/-- 'barscanlaw27.AztextEncodes': WHATEVER THE INPUT: true; the input reads as it did. -/
def aztextEncodesSpec : ChangeSpec := { name := "aztextEncodes", fn := fun _ => fun
  | [d] => { results := [.lit (.bool true)], args := [d] }
  | _ => none }
def aztextEncodesRow : OpenClaim := { program := "ytplppbfnlfehnaadoor", sum := "a140132781787f3f9ed529a74d44dfbe9b129a13b46344e5e9d1d992a8d7caea", func := "barscan/barscanlaw27.AztextEncodes", spec := "aztextEncodes", inPlace := ["internal/bytealg.CountString", "internal/bytealg.IndexByteString", "internal/bytealg.IndexString"], unfollowed := true, recurses := true, named := ["unicode/utf8.first", "unicode/utf8.acceptRanges", "internal/bytealg.MaxLen"], plainKeys := false, apart := false, laid := [("unicode/utf8.acceptRanges", laid_unicode_utf8_acceptRanges), ("unicode/utf8.first", laid_unicode_utf8_first)] }
def AztextEncodesSaid : Prop := aztextEncodesRow.holds Tryd.pinned (OpenSpec.ofChange aztextEncodesSpec)

/-- ITS FALSE NEIGHBOUR: 'it returns false'. Refute it at one input. -/
def aztextEncodesWrong : ChangeSpec := { name := "aztextEncodes", fn := fun _ => fun
  | [d] => { results := [.lit (.bool false)], args := [d] }
  | _ => none }
def AztextEncodesWrongFalsely : Prop := aztextEncodesRow.holds Tryd.pinned (OpenSpec.ofChange aztextEncodesWrong)

/-- 'barscanlaw27.AztextDecodes': WHATEVER THE INPUT: true; the input reads as it did. -/
def aztextDecodesSpec : ChangeSpec := { name := "aztextDecodes", fn := fun _ => fun
  | [d] => { results := [.lit (.bool true)], args := [d] }
  | _ => none }
def aztextDecodesRow : OpenClaim := { program := "ytplppbfnlfehnaadoor", sum := "a140132781787f3f9ed529a74d44dfbe9b129a13b46344e5e9d1d992a8d7caea", func := "barscan/barscanlaw27.AztextDecodes", spec := "aztextDecodes", inPlace := ["internal/bytealg.CountString", "internal/bytealg.IndexByteString", "internal/bytealg.IndexString"], unfollowed := true, recurses := true, named := ["unicode/utf8.first", "unicode/utf8.acceptRanges", "internal/bytealg.MaxLen"], plainKeys := false, apart := false, laid := [("unicode/utf8.acceptRanges", laid_unicode_utf8_acceptRanges), ("unicode/utf8.first", laid_unicode_utf8_first)] }
def AztextDecodesSaid : Prop := aztextDecodesRow.holds Tryd.pinned (OpenSpec.ofChange aztextDecodesSpec)

/-- ITS FALSE NEIGHBOUR: 'it returns false'. Refute it at one input. -/
def aztextDecodesWrong : ChangeSpec := { name := "aztextDecodes", fn := fun _ => fun
  | [d] => { results := [.lit (.bool false)], args := [d] }
  | _ => none }
def AztextDecodesWrongFalsely : Prop := aztextDecodesRow.holds Tryd.pinned (OpenSpec.ofChange aztextDecodesWrong)

/-- 'barscanlaw27.AztextStuffs': WHATEVER THE INPUT: true; the input reads as it did. -/
def aztextStuffsSpec : ChangeSpec := { name := "aztextStuffs", fn := fun _ => fun
  | [d1, d2, d3] => { results := [.lit (.bool true)], args := [d1, d2, d3] }
  | _ => none }
def aztextStuffsRow : OpenClaim := { program := "ytplppbfnlfehnaadoor", sum := "a140132781787f3f9ed529a74d44dfbe9b129a13b46344e5e9d1d992a8d7caea", func := "barscan/barscanlaw27.AztextStuffs", spec := "aztextStuffs", inPlace := ["internal/bytealg.CountString", "internal/bytealg.IndexByteString", "internal/bytealg.IndexString"], unfollowed := true, recurses := true, named := ["unicode/utf8.first", "unicode/utf8.acceptRanges", "internal/bytealg.MaxLen"], plainKeys := false, apart := false, laid := [("unicode/utf8.acceptRanges", laid_unicode_utf8_acceptRanges), ("unicode/utf8.first", laid_unicode_utf8_first)] }
def AztextStuffsSaid : Prop := aztextStuffsRow.holds Tryd.pinned (OpenSpec.ofChange aztextStuffsSpec)

/-- ITS FALSE NEIGHBOUR: 'it returns false'. Refute it at one input. -/
def aztextStuffsWrong : ChangeSpec := { name := "aztextStuffs", fn := fun _ => fun
  | [d1, d2, d3] => { results := [.lit (.bool false)], args := [d1, d2, d3] }
  | _ => none }
def AztextStuffsWrongFalsely : Prop := aztextStuffsRow.holds Tryd.pinned (OpenSpec.ofChange aztextStuffsWrong)

/-- 'barscanlaw27.AztextReturns': WHATEVER THE INPUT: true; the input reads as it did. -/
def aztextReturnsSpec : ChangeSpec := { name := "aztextReturns", fn := fun _ => fun
  | [d1, d2] => { results := [.lit (.bool true)], args := [d1, d2] }
  | _ => none }
def aztextReturnsRow : OpenClaim := { program := "ytplppbfnlfehnaadoor", sum := "a140132781787f3f9ed529a74d44dfbe9b129a13b46344e5e9d1d992a8d7caea", func := "barscan/barscanlaw27.AztextReturns", spec := "aztextReturns", inPlace := ["internal/bytealg.CountString", "internal/bytealg.IndexByteString", "internal/bytealg.IndexString"], unfollowed := true, recurses := true, named := ["unicode/utf8.first", "unicode/utf8.acceptRanges", "internal/bytealg.MaxLen"], plainKeys := false, apart := false, laid := [("unicode/utf8.acceptRanges", laid_unicode_utf8_acceptRanges), ("unicode/utf8.first", laid_unicode_utf8_first)] }
def AztextReturnsSaid : Prop := aztextReturnsRow.holds Tryd.pinned (OpenSpec.ofChange aztextReturnsSpec)

/-- ITS FALSE NEIGHBOUR: 'it returns false'. Refute it at one input. -/
def aztextReturnsWrong : ChangeSpec := { name := "aztextReturns", fn := fun _ => fun
  | [d1, d2] => { results := [.lit (.bool false)], args := [d1, d2] }
  | _ => none }
def AztextReturnsWrongFalsely : Prop := aztextReturnsRow.holds Tryd.pinned (OpenSpec.ofChange aztextReturnsWrong)

/-- 'barscanlaw27.AztextStuffed': WHATEVER THE INPUT: true; the input reads as it did. -/
def aztextStuffedSpec : ChangeSpec := { name := "aztextStuffed", fn := fun _ => fun
  | [d1, d2] => { results := [.lit (.bool true)], args := [d1, d2] }
  | _ => none }
def aztextStuffedRow : OpenClaim := { program := "ytplppbfnlfehnaadoor", sum := "a140132781787f3f9ed529a74d44dfbe9b129a13b46344e5e9d1d992a8d7caea", func := "barscan/barscanlaw27.AztextStuffed", spec := "aztextStuffed", inPlace := ["internal/bytealg.CountString", "internal/bytealg.IndexByteString", "internal/bytealg.IndexString"], unfollowed := true, recurses := true, named := ["unicode/utf8.first", "unicode/utf8.acceptRanges", "internal/bytealg.MaxLen"], plainKeys := false, apart := false, laid := [("unicode/utf8.acceptRanges", laid_unicode_utf8_acceptRanges), ("unicode/utf8.first", laid_unicode_utf8_first)] }
def AztextStuffedSaid : Prop := aztextStuffedRow.holds Tryd.pinned (OpenSpec.ofChange aztextStuffedSpec)

/-- ITS FALSE NEIGHBOUR: 'it returns false'. Refute it at one input. -/
def aztextStuffedWrong : ChangeSpec := { name := "aztextStuffed", fn := fun _ => fun
  | [d1, d2] => { results := [.lit (.bool false)], args := [d1, d2] }
  | _ => none }
def AztextStuffedWrongFalsely : Prop := aztextStuffedRow.holds Tryd.pinned (OpenSpec.ofChange aztextStuffedWrong)

/-- 'barscanlaw27.AztextThrough': WHATEVER THE INPUT: true; the input reads as it did. -/
def aztextThroughSpec : ChangeSpec := { name := "aztextThrough", fn := fun _ => fun
  | [d1, d2] => { results := [.lit (.bool true)], args := [d1, d2] }
  | _ => none }
def aztextThroughRow : OpenClaim := { program := "ytplppbfnlfehnaadoor", sum := "a140132781787f3f9ed529a74d44dfbe9b129a13b46344e5e9d1d992a8d7caea", func := "barscan/barscanlaw27.AztextThrough", spec := "aztextThrough", inPlace := ["internal/bytealg.CountString", "internal/bytealg.IndexByteString", "internal/bytealg.IndexString"], unfollowed := true, recurses := true, named := ["unicode/utf8.first", "unicode/utf8.acceptRanges", "internal/bytealg.MaxLen"], plainKeys := false, apart := false, laid := [("unicode/utf8.acceptRanges", laid_unicode_utf8_acceptRanges), ("unicode/utf8.first", laid_unicode_utf8_first)] }
def AztextThroughSaid : Prop := aztextThroughRow.holds Tryd.pinned (OpenSpec.ofChange aztextThroughSpec)

/-- ITS FALSE NEIGHBOUR: 'it returns false'. Refute it at one input. -/
def aztextThroughWrong : ChangeSpec := { name := "aztextThrough", fn := fun _ => fun
  | [d1, d2] => { results := [.lit (.bool false)], args := [d1, d2] }
  | _ => none }
def AztextThroughWrongFalsely : Prop := aztextThroughRow.holds Tryd.pinned (OpenSpec.ofChange aztextThroughWrong)

/-- 'barscanlaw27.AztextMinimal': WHATEVER THE INPUT: true; the input reads as it did. -/
def aztextMinimalSpec : ChangeSpec := { name := "aztextMinimal", fn := fun _ => fun
  | [d] => { results := [.lit (.bool true)], args := [d] }
  | _ => none }
def aztextMinimalRow : OpenClaim := { program := "ytplppbfnlfehnaadoor", sum := "a140132781787f3f9ed529a74d44dfbe9b129a13b46344e5e9d1d992a8d7caea", func := "barscan/barscanlaw27.AztextMinimal", spec := "aztextMinimal", inPlace := ["internal/bytealg.CountString", "internal/bytealg.IndexByteString", "internal/bytealg.IndexString"], unfollowed := true, recurses := true, named := ["unicode/utf8.first", "unicode/utf8.acceptRanges", "internal/bytealg.MaxLen"], plainKeys := false, apart := false, laid := [("unicode/utf8.acceptRanges", laid_unicode_utf8_acceptRanges), ("unicode/utf8.first", laid_unicode_utf8_first)] }
def AztextMinimalSaid : Prop := aztextMinimalRow.holds Tryd.pinned (OpenSpec.ofChange aztextMinimalSpec)

/-- ITS FALSE NEIGHBOUR: 'it returns false'. Refute it at one input. -/
def aztextMinimalWrong : ChangeSpec := { name := "aztextMinimal", fn := fun _ => fun
  | [d] => { results := [.lit (.bool false)], args := [d] }
  | _ => none }
def AztextMinimalWrongFalsely : Prop := aztextMinimalRow.holds Tryd.pinned (OpenSpec.ofChange aztextMinimalWrong)

/-- 'barscanlaw27.AztextJoins': WHATEVER THE INPUT: true; the input reads as it did. -/
def aztextJoinsSpec : ChangeSpec := { name := "aztextJoins", fn := fun _ => fun
  | [d1, d2] => { results := [.lit (.bool true)], args := [d1, d2] }
  | _ => none }
def aztextJoinsRow : OpenClaim := { program := "ytplppbfnlfehnaadoor", sum := "a140132781787f3f9ed529a74d44dfbe9b129a13b46344e5e9d1d992a8d7caea", func := "barscan/barscanlaw27.AztextJoins", spec := "aztextJoins", inPlace := ["internal/bytealg.CountString", "internal/bytealg.IndexByteString", "internal/bytealg.IndexString"], unfollowed := true, recurses := true, named := ["unicode/utf8.first", "unicode/utf8.acceptRanges", "internal/bytealg.MaxLen"], plainKeys := false, apart := false, laid := [("unicode/utf8.acceptRanges", laid_unicode_utf8_acceptRanges), ("unicode/utf8.first", laid_unicode_utf8_first)] }
def AztextJoinsSaid : Prop := aztextJoinsRow.holds Tryd.pinned (OpenSpec.ofChange aztextJoinsSpec)

/-- ITS FALSE NEIGHBOUR: 'it returns false'. Refute it at one input. -/
def aztextJoinsWrong : ChangeSpec := { name := "aztextJoins", fn := fun _ => fun
  | [d1, d2] => { results := [.lit (.bool false)], args := [d1, d2] }
  | _ => none }
def AztextJoinsWrongFalsely : Prop := aztextJoinsRow.holds Tryd.pinned (OpenSpec.ofChange aztextJoinsWrong)

/- THE SECOND FORM. 'bulk': how many values and letters a reading holds, each counted each time it is reached (what is shared counts as often as it is met; a slice's spare places count too). A statement '..UptoSaid' is the law's where the arguments, and the package variables that the reading takes, are together of bulk at most 1048576: NARROWER than '..Said'. Prove '..Said' where nothing that the law and all that it calls make is longer than what came in: it says more and counts as full. Else prove '..UptoSaid'. A law counts once. -/
mutual
def uptoBulk {H : Type} : DataW H → Nat
  | .lit (.string bytes) => bytes.length + 1
  | .lit _ => 1
  | .nil => 1
  | .ptr d => uptoBulk d + 1
  | .slice elems spare => uptoBulkAll elems + uptoBulkAll spare + 1
  | .agg parts => uptoBulkAll parts + 1
  | .iface _ d => uptoBulk d + 1
  | .map entries => uptoBulkEntries entries + 1
  | .held _ => 1
def uptoBulkAll {H : Type} : List (DataW H) → Nat
  | [] => 0
  | d :: r => uptoBulk d + uptoBulkAll r
def uptoBulkEntries {H : Type} : List (Lit × DataW H) → Nat
  | [] => 0
  | x :: r => uptoBulkEntry x + uptoBulkEntries r
def uptoBulkEntry {H : Type} : Lit × DataW H → Nat
  | (.string bytes, d) => bytes.length + uptoBulk d + 1
  | (_, d) => uptoBulk d + 1
 end
def uptoSmall : (H : Type) → List (DataW H) → Bool := fun _ ds => decide (uptoBulkAll ds ≤ 1048576)
def OpenSpec.upto (s : _root_.Go.ChangeSpec) : _root_.Go.OpenSpec := { _root_.Go.OpenSpec.ofChange s with cond := some uptoSmall }

/-- 'barscanlaw27.AztextEncodes', WHERE WHAT IT READS IS OF BULK AT MOST 1048576: true; the input reads as it did. -/
def aztextEncodesUptoRow : OpenClaim := { program := "ytplppbfnlfehnaadoor", sum := "a140132781787f3f9ed529a74d44dfbe9b129a13b46344e5e9d1d992a8d7caea", func := "barscan/barscanlaw27.AztextEncodes", spec := "aztextEncodes", inPlace := ["internal/bytealg.CountString", "internal/bytealg.IndexByteString", "internal/bytealg.IndexString"], unfollowed := true, recurses := true, named := ["unicode/utf8.first", "unicode/utf8.acceptRanges", "internal/bytealg.MaxLen"], plainKeys := false, apart := false, laid := [("unicode/utf8.acceptRanges", laid_unicode_utf8_acceptRanges), ("unicode/utf8.first", laid_unicode_utf8_first)], narrowed := true }
def AztextEncodesUptoSaid : Prop := aztextEncodesUptoRow.holds Tryd.pinned (OpenSpec.upto aztextEncodesSpec)

/-- 'barscanlaw27.AztextDecodes', WHERE WHAT IT READS IS OF BULK AT MOST 1048576: true; the input reads as it did. -/
def aztextDecodesUptoRow : OpenClaim := { program := "ytplppbfnlfehnaadoor", sum := "a140132781787f3f9ed529a74d44dfbe9b129a13b46344e5e9d1d992a8d7caea", func := "barscan/barscanlaw27.AztextDecodes", spec := "aztextDecodes", inPlace := ["internal/bytealg.CountString", "internal/bytealg.IndexByteString", "internal/bytealg.IndexString"], unfollowed := true, recurses := true, named := ["unicode/utf8.first", "unicode/utf8.acceptRanges", "internal/bytealg.MaxLen"], plainKeys := false, apart := false, laid := [("unicode/utf8.acceptRanges", laid_unicode_utf8_acceptRanges), ("unicode/utf8.first", laid_unicode_utf8_first)], narrowed := true }
def AztextDecodesUptoSaid : Prop := aztextDecodesUptoRow.holds Tryd.pinned (OpenSpec.upto aztextDecodesSpec)

/-- 'barscanlaw27.AztextStuffs', WHERE WHAT IT READS IS OF BULK AT MOST 1048576: true; the input reads as it did. -/
def aztextStuffsUptoRow : OpenClaim := { program := "ytplppbfnlfehnaadoor", sum := "a140132781787f3f9ed529a74d44dfbe9b129a13b46344e5e9d1d992a8d7caea", func := "barscan/barscanlaw27.AztextStuffs", spec := "aztextStuffs", inPlace := ["internal/bytealg.CountString", "internal/bytealg.IndexByteString", "internal/bytealg.IndexString"], unfollowed := true, recurses := true, named := ["unicode/utf8.first", "unicode/utf8.acceptRanges", "internal/bytealg.MaxLen"], plainKeys := false, apart := false, laid := [("unicode/utf8.acceptRanges", laid_unicode_utf8_acceptRanges), ("unicode/utf8.first", laid_unicode_utf8_first)], narrowed := true }
def AztextStuffsUptoSaid : Prop := aztextStuffsUptoRow.holds Tryd.pinned (OpenSpec.upto aztextStuffsSpec)

/-- 'barscanlaw27.AztextReturns', WHERE WHAT IT READS IS OF BULK AT MOST 1048576: true; the input reads as it did. -/
def aztextReturnsUptoRow : OpenClaim := { program := "ytplppbfnlfehnaadoor", sum := "a140132781787f3f9ed529a74d44dfbe9b129a13b46344e5e9d1d992a8d7caea", func := "barscan/barscanlaw27.AztextReturns", spec := "aztextReturns", inPlace := ["internal/bytealg.CountString", "internal/bytealg.IndexByteString", "internal/bytealg.IndexString"], unfollowed := true, recurses := true, named := ["unicode/utf8.first", "unicode/utf8.acceptRanges", "internal/bytealg.MaxLen"], plainKeys := false, apart := false, laid := [("unicode/utf8.acceptRanges", laid_unicode_utf8_acceptRanges), ("unicode/utf8.first", laid_unicode_utf8_first)], narrowed := true }
def AztextReturnsUptoSaid : Prop := aztextReturnsUptoRow.holds Tryd.pinned (OpenSpec.upto aztextReturnsSpec)

/-- 'barscanlaw27.AztextStuffed', WHERE WHAT IT READS IS OF BULK AT MOST 1048576: true; the input reads as it did. -/
def aztextStuffedUptoRow : OpenClaim := { program := "ytplppbfnlfehnaadoor", sum := "a140132781787f3f9ed529a74d44dfbe9b129a13b46344e5e9d1d992a8d7caea", func := "barscan/barscanlaw27.AztextStuffed", spec := "aztextStuffed", inPlace := ["internal/bytealg.CountString", "internal/bytealg.IndexByteString", "internal/bytealg.IndexString"], unfollowed := true, recurses := true, named := ["unicode/utf8.first", "unicode/utf8.acceptRanges", "internal/bytealg.MaxLen"], plainKeys := false, apart := false, laid := [("unicode/utf8.acceptRanges", laid_unicode_utf8_acceptRanges), ("unicode/utf8.first", laid_unicode_utf8_first)], narrowed := true }
def AztextStuffedUptoSaid : Prop := aztextStuffedUptoRow.holds Tryd.pinned (OpenSpec.upto aztextStuffedSpec)

/-- 'barscanlaw27.AztextThrough', WHERE WHAT IT READS IS OF BULK AT MOST 1048576: true; the input reads as it did. -/
def aztextThroughUptoRow : OpenClaim := { program := "ytplppbfnlfehnaadoor", sum := "a140132781787f3f9ed529a74d44dfbe9b129a13b46344e5e9d1d992a8d7caea", func := "barscan/barscanlaw27.AztextThrough", spec := "aztextThrough", inPlace := ["internal/bytealg.CountString", "internal/bytealg.IndexByteString", "internal/bytealg.IndexString"], unfollowed := true, recurses := true, named := ["unicode/utf8.first", "unicode/utf8.acceptRanges", "internal/bytealg.MaxLen"], plainKeys := false, apart := false, laid := [("unicode/utf8.acceptRanges", laid_unicode_utf8_acceptRanges), ("unicode/utf8.first", laid_unicode_utf8_first)], narrowed := true }
def AztextThroughUptoSaid : Prop := aztextThroughUptoRow.holds Tryd.pinned (OpenSpec.upto aztextThroughSpec)

/-- 'barscanlaw27.AztextMinimal', WHERE WHAT IT READS IS OF BULK AT MOST 1048576: true; the input reads as it did. -/
def aztextMinimalUptoRow : OpenClaim := { program := "ytplppbfnlfehnaadoor", sum := "a140132781787f3f9ed529a74d44dfbe9b129a13b46344e5e9d1d992a8d7caea", func := "barscan/barscanlaw27.AztextMinimal", spec := "aztextMinimal", inPlace := ["internal/bytealg.CountString", "internal/bytealg.IndexByteString", "internal/bytealg.IndexString"], unfollowed := true, recurses := true, named := ["unicode/utf8.first", "unicode/utf8.acceptRanges", "internal/bytealg.MaxLen"], plainKeys := false, apart := false, laid := [("unicode/utf8.acceptRanges", laid_unicode_utf8_acceptRanges), ("unicode/utf8.first", laid_unicode_utf8_first)], narrowed := true }
def AztextMinimalUptoSaid : Prop := aztextMinimalUptoRow.holds Tryd.pinned (OpenSpec.upto aztextMinimalSpec)

/-- 'barscanlaw27.AztextJoins', WHERE WHAT IT READS IS OF BULK AT MOST 1048576: true; the input reads as it did. -/
def aztextJoinsUptoRow : OpenClaim := { program := "ytplppbfnlfehnaadoor", sum := "a140132781787f3f9ed529a74d44dfbe9b129a13b46344e5e9d1d992a8d7caea", func := "barscan/barscanlaw27.AztextJoins", spec := "aztextJoins", inPlace := ["internal/bytealg.CountString", "internal/bytealg.IndexByteString", "internal/bytealg.IndexString"], unfollowed := true, recurses := true, named := ["unicode/utf8.first", "unicode/utf8.acceptRanges", "internal/bytealg.MaxLen"], plainKeys := false, apart := false, laid := [("unicode/utf8.acceptRanges", laid_unicode_utf8_acceptRanges), ("unicode/utf8.first", laid_unicode_utf8_first)], narrowed := true }
def AztextJoinsUptoSaid : Prop := aztextJoinsUptoRow.holds Tryd.pinned (OpenSpec.upto aztextJoinsSpec)

end Rows
end Go.Proofs.YtplppbfnlfehnaaDoor
