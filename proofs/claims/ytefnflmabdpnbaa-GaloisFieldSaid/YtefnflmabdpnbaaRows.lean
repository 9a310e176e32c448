/-
  No cell of these rows narrows 'for every input' (looked for: loops, veiled, ifaces, maps, wideKeys, modest, calm, conditions, laid).
  DERIVED. THE GIVEN ROWS OF THIS SEAT. 7 by the template 'for every input the law returns true; each argument reads behind the call as it read before'; 0 by the template 'total and deterministic' (their statements: YtefnflmabdpnbaaTotals.lean).
  GIVEN WITH THE SEED: the statements are not yours to turn. If you find one false, say at which input.
  Laid BY PROGRAM, IN A SANDBOX (cutbox-rows.mjs): the forced cells as the released guide's own fill.sh prints them over the translation 705f47acf7bf4f81… (all of the seat's roots in one cut). By AI agents, Wed Nov 11 2026. No macro, syntax, notation, axiom, sorry.
-/
import Derived.Test.YtefnflmabdpnbaaChecked
import GoSem.Claim
import GoSem.ClaimJoined
import GoSem.ClaimMapViews
import Derived.JoinedTies
import Derived.KernelRfl
namespace Go.Proofs.Ytefnflmabdpnbaa
/- THE CELL 'sum', in the pinned program and in every row, IS THE sha256 OF THE DUMP (.gsa) THAT YtefnflmabdpnbaaProg.lean LOADS. Nothing in Lean hashes anything: it is a label: what it is worth is what the hold of that sum in a sandbox is worth. -/
noncomputable def Try.pinned : Pinned := { name := "ytefnflmabdpnbaa", sum := "705f47acf7bf4f81866dae505b28abb9a38901a13af79c623d73f3d81c4782e6", checked := Try.checked }
namespace Rows
def none {H : Type} : Left H := { results := [], args := [] }

/-- 'barscanlaw04.GaloisMakes': WHATEVER THE INPUT: true; the input reads as it did. -/
def galoisMakesSpec : ChangeSpec := { name := "galoisMakes", fn := fun _ => fun
  | [d1, d2, d3] => { results := [.lit (.bool true)], args := [d1, d2, d3] }
  | _ => none }
def galoisMakesRow : OpenClaim := { program := "ytefnflmabdpnbaa", sum := "705f47acf7bf4f81866dae505b28abb9a38901a13af79c623d73f3d81c4782e6", func := "barscan/barscanlaw04.GaloisMakes", spec := "galoisMakes", plainKeys := false, apart := false }
def GaloisMakesSaid : Prop := galoisMakesRow.holds Try.pinned (OpenSpec.ofChange galoisMakesSpec)

/-- ITS FALSE NEIGHBOUR: 'it returns false'. Refute it at one input. -/
def galoisMakesWrong : ChangeSpec := { name := "galoisMakes", fn := fun _ => fun
  | [d1, d2, d3] => { results := [.lit (.bool false)], args := [d1, d2, d3] }
  | _ => none }
def GaloisMakesWrongFalsely : Prop := galoisMakesRow.holds Try.pinned (OpenSpec.ofChange galoisMakesWrong)

/-- 'barscanlaw04.GaloisLogarithms': WHATEVER THE INPUT: true; the input reads as it did. -/
def galoisLogarithmsSpec : ChangeSpec := { name := "galoisLogarithms", fn := fun _ => fun
  | [d] => { results := [.lit (.bool true)], args := [d] }
  | _ => none }
def galoisLogarithmsRow : OpenClaim := { program := "ytefnflmabdpnbaa", sum := "705f47acf7bf4f81866dae505b28abb9a38901a13af79c623d73f3d81c4782e6", func := "barscan/barscanlaw04.GaloisLogarithms", spec := "galoisLogarithms", plainKeys := false, apart := false }
def GaloisLogarithmsSaid : Prop := galoisLogarithmsRow.holds Try.pinned (OpenSpec.ofChange galoisLogarithmsSpec)

/-- ITS FALSE NEIGHBOUR: 'it returns false'. Refute it at one input. -/
def galoisLogarithmsWrong : ChangeSpec := { name := "galoisLogarithms", fn := fun _ => fun
  | [d] => { results := [.lit (.bool false)], args := [d] }
  | _ => none }
def GaloisLogarithmsWrongFalsely : Prop := galoisLogarithmsRow.holds Try.pinned (OpenSpec.ofChange galoisLogarithmsWrong)

/-- 'barscanlaw04.GaloisLogs': WHATEVER THE INPUT: true; the input reads as it did. -/
def galoisLogsSpec : ChangeSpec := { name := "galoisLogs", fn := fun _ => fun
  | [d] => { results := [.lit (.bool true)], args := [d] }
  | _ => none }
def galoisLogsRow : OpenClaim := { program := "ytefnflmabdpnbaa", sum := "705f47acf7bf4f81866dae505b28abb9a38901a13af79c623d73f3d81c4782e6", func := "barscan/barscanlaw04.GaloisLogs", spec := "galoisLogs", plainKeys := false, apart := false }
def GaloisLogsSaid : Prop := galoisLogsRow.holds Try.pinned (OpenSpec.ofChange galoisLogsSpec)

/-- ITS FALSE NEIGHBOUR: 'it returns false'. Refute it at one input. -/
def galoisLogsWrong : ChangeSpec := { name := "galoisLogs", fn := fun _ => fun
  | [d] => { results := [.lit (.bool false)], args := [d] }
  | _ => none }
def GaloisLogsWrongFalsely : Prop := galoisLogsRow.holds Try.pinned (OpenSpec.ofChange galoisLogsWrong)

/-- 'barscanlaw04.GaloisCalculates': WHATEVER THE INPUT: true; the input reads as it did. -/
def galoisCalculatesSpec : ChangeSpec := { name := "galoisCalculates", fn := fun _ => fun
  | [d] => { results := [.lit (.bool true)], args := [d] }
  | _ => none }
def galoisCalculatesRow : OpenClaim := { program := "ytefnflmabdpnbaa", sum := "705f47acf7bf4f81866dae505b28abb9a38901a13af79c623d73f3d81c4782e6", func := "barscan/barscanlaw04.GaloisCalculates", spec := "galoisCalculates", plainKeys := false, apart := false }
def GaloisCalculatesSaid : Prop := galoisCalculatesRow.holds Try.pinned (OpenSpec.ofChange galoisCalculatesSpec)

/-- ITS FALSE NEIGHBOUR: 'it returns false'. Refute it at one input. -/
def galoisCalculatesWrong : ChangeSpec := { name := "galoisCalculates", fn := fun _ => fun
  | [d] => { results := [.lit (.bool false)], args := [d] }
  | _ => none }
def GaloisCalculatesWrongFalsely : Prop := galoisCalculatesRow.holds Try.pinned (OpenSpec.ofChange galoisCalculatesWrong)

/-- 'barscanlaw04.GaloisField': WHATEVER THE INPUT: true; the input reads as it did. -/
def galoisFieldSpec : ChangeSpec := { name := "galoisField", fn := fun _ => fun
  | [d1, d2, d3] => { results := [.lit (.bool true)], args := [d1, d2, d3] }
  | _ => none }
def galoisFieldRow : OpenClaim := { program := "ytefnflmabdpnbaa", sum := "705f47acf7bf4f81866dae505b28abb9a38901a13af79c623d73f3d81c4782e6", func := "barscan/barscanlaw04.GaloisField", spec := "galoisField", plainKeys := false, apart := false }
def GaloisFieldSaid : Prop := galoisFieldRow.holds Try.pinned (OpenSpec.ofChange galoisFieldSpec)

/-- ITS FALSE NEIGHBOUR: 'it returns false'. Refute it at one input. -/
def galoisFieldWrong : ChangeSpec := { name := "galoisField", fn := fun _ => fun
  | [d1, d2, d3] => { results := [.lit (.bool false)], args := [d1, d2, d3] }
  | _ => none }
def GaloisFieldWrongFalsely : Prop := galoisFieldRow.holds Try.pinned (OpenSpec.ofChange galoisFieldWrong)

/-- 'barscanlaw04.GaloisPowers': WHATEVER THE INPUT: true; the input reads as it did. -/
def galoisPowersSpec : ChangeSpec := { name := "galoisPowers", fn := fun _ => fun
  | [d] => { results := [.lit (.bool true)], args := [d] }
  | _ => none }
def galoisPowersRow : OpenClaim := { program := "ytefnflmabdpnbaa", sum := "705f47acf7bf4f81866dae505b28abb9a38901a13af79c623d73f3d81c4782e6", func := "barscan/barscanlaw04.GaloisPowers", spec := "galoisPowers", plainKeys := false, apart := false }
def GaloisPowersSaid : Prop := galoisPowersRow.holds Try.pinned (OpenSpec.ofChange galoisPowersSpec)

/-- ITS FALSE NEIGHBOUR: 'it returns false'. Refute it at one input. -/
def galoisPowersWrong : ChangeSpec := { name := "galoisPowers", fn := fun _ => fun
  | [d] => { results := [.lit (.bool false)], args := [d] }
  | _ => none }
def GaloisPowersWrongFalsely : Prop := galoisPowersRow.holds Try.pinned (OpenSpec.ofChange galoisPowersWrong)

/-- 'barscanlaw04.GaloisExponents': WHATEVER THE INPUT: true; the input reads as it did. -/
def galoisExponentsSpec : ChangeSpec := { name := "galoisExponents", fn := fun _ => fun
  | [d1, d2] => { results := [.lit (.bool true)], args := [d1, d2] }
  | _ => none }
def galoisExponentsRow : OpenClaim := { program := "ytefnflmabdpnbaa", sum := "705f47acf7bf4f81866dae505b28abb9a38901a13af79c623d73f3d81c4782e6", func := "barscan/barscanlaw04.GaloisExponents", spec := "galoisExponents", plainKeys := false, apart := false }
def GaloisExponentsSaid : Prop := galoisExponentsRow.holds Try.pinned (OpenSpec.ofChange galoisExponentsSpec)

/-- ITS FALSE NEIGHBOUR: 'it returns false'. Refute it at one input. -/
def galoisExponentsWrong : ChangeSpec := { name := "galoisExponents", fn := fun _ => fun
  | [d1, d2] => { results := [.lit (.bool false)], args := [d1, d2] }
  | _ => none }
def GaloisExponentsWrongFalsely : Prop := galoisExponentsRow.holds Try.pinned (OpenSpec.ofChange galoisExponentsWrong)

/- THE SECOND FORM. 'bulk': how many values and letters a reading holds, each counted each time it is reached (what is shared counts as often as it is met; a slice's spare places count too). A statement '..UptoSaid' is the law's where the arguments, and the package variables that the reading takes, are together of bulk at most 1048576: NARROWER than '..Said'. Prove '..Said' where nothing that the law and all that it calls make is longer than what came in: it says more and counts as full. Else prove '..UptoSaid'. A law counts once. -/
mutual
def uptoBulk {H : Type} : DataW H → Nat
  | .lit (.string bytes) => bytes.length + 1
  | .lit _ => 1
  | .nil => 1
  | .ptr d => uptoBulk d + 1
  | .slice elems spare => uptoBulkAll elems + uptoBulkAll spare + 1
  | .agg parts => uptoBulkAll parts + 1
  | .iface _ d => uptoBulk d + 1
  | .map entries => uptoBulkEntries entries + 1
  | .held _ => 1
def uptoBulkAll {H : Type} : List (DataW H) → Nat
  | [] => 0
  | d :: r => uptoBulk d + uptoBulkAll r
def uptoBulkEntries {H : Type} : List (Lit × DataW H) → Nat
  | [] => 0
  | x :: r => uptoBulkEntry x + uptoBulkEntries r
def uptoBulkEntry {H : Type} : Lit × DataW H → Nat
  | (.string bytes, d) => bytes.length + uptoBulk d + 1
  | (_, d) => uptoBulk d + 1
 end
def uptoSmall : (H : Type) → List (DataW H) → Bool := fun _ ds => decide (uptoBulkAll ds ≤ 1048576)
def OpenSpec.upto (s : _root_.Go.ChangeSpec) : _root_.Go.OpenSpec := { _root_.Go.OpenSpec.ofChange s with cond := some uptoSmall }

/-- 'barscanlaw04.GaloisMakes', WHERE WHAT IT READS IS OF BULK AT MOST 1048576: true; the input reads as it did. -/
def galoisMakesUptoRow : OpenClaim := { program := "ytefnflmabdpnbaa", sum := "705f47acf7bf4f81866dae505b28abb9a38901a13af79c623d73f3d81c4782e6", func := "barscan/barscanlaw04.GaloisMakes", spec := "galoisMakes", plainKeys := false, apart := false, narrowed := true }
def GaloisMakesUptoSaid : Prop := galoisMakesUptoRow.holds Try.pinned (OpenSpec.upto galoisMakesSpec)

/-- 'barscanlaw04.GaloisLogarithms', WHERE WHAT IT READS IS OF BULK AT MOST 1048576: true; the input reads as it did. -/
def galoisLogarithmsUptoRow : OpenClaim := { program := "ytefnflmabdpnbaa", sum := "705f47acf7bf4f81866dae505b28abb9a38901a13af79c623d73f3d81c4782e6", func := "barscan/barscanlaw04.GaloisLogarithms", spec := "galoisLogarithms", plainKeys := false, apart := false, narrowed := true }
def GaloisLogarithmsUptoSaid : Prop := galoisLogarithmsUptoRow.holds Try.pinned (OpenSpec.upto galoisLogarithmsSpec)

/-- 'barscanlaw04.GaloisLogs', WHERE WHAT IT READS IS OF BULK AT MOST 1048576: true; the input reads as it did. -/
def galoisLogsUptoRow : OpenClaim := { program := "ytefnflmabdpnbaa", sum := "705f47acf7bf4f81866dae505b28abb9a38901a13af79c623d73f3d81c4782e6", func := "barscan/barscanlaw04.GaloisLogs", spec := "galoisLogs", plainKeys := false, apart := false, narrowed := true }
def GaloisLogsUptoSaid : Prop := galoisLogsUptoRow.holds Try.pinned (OpenSpec.upto galoisLogsSpec)

/-- 'barscanlaw04.GaloisCalculates', WHERE WHAT IT READS IS OF BULK AT MOST 1048576: true; the input reads as it did. -/
def galoisCalculatesUptoRow : OpenClaim := { program := "ytefnflmabdpnbaa", sum := "705f47acf7bf4f81866dae505b28abb9a38901a13af79c623d73f3d81c4782e6", func := "barscan/barscanlaw04.GaloisCalculates", spec := "galoisCalculates", plainKeys := false, apart := false, narrowed := true }
def GaloisCalculatesUptoSaid : Prop := galoisCalculatesUptoRow.holds Try.pinned (OpenSpec.upto galoisCalculatesSpec)

/-- 'barscanlaw04.GaloisField', WHERE WHAT IT READS IS OF BULK AT MOST 1048576: true; the input reads as it did. -/
def galoisFieldUptoRow : OpenClaim := { program := "ytefnflmabdpnbaa", sum := "705f47acf7bf4f81866dae505b28abb9a38901a13af79c623d73f3d81c4782e6", func := "barscan/barscanlaw04.GaloisField", spec := "galoisField", plainKeys := false, apart := false, narrowed := true }
def GaloisFieldUptoSaid : Prop := galoisFieldUptoRow.holds Try.pinned (OpenSpec.upto galoisFieldSpec)

/-- 'barscanlaw04.GaloisPowers', WHERE WHAT IT READS IS OF BULK AT MOST 1048576: true; the input reads as it did. -/
def galoisPowersUptoRow : OpenClaim := { program := "ytefnflmabdpnbaa", sum := "705f47acf7bf4f81866dae505b28abb9a38901a13af79c623d73f3d81c4782e6", func := "barscan/barscanlaw04.GaloisPowers", spec := "galoisPowers", plainKeys := false, apart := false, narrowed := true }
def GaloisPowersUptoSaid : Prop := galoisPowersUptoRow.holds Try.pinned (OpenSpec.upto galoisPowersSpec)

/-- 'barscanlaw04.GaloisExponents', WHERE WHAT IT READS IS OF BULK AT MOST 1048576: true; the input reads as it did. -/
def galoisExponentsUptoRow : OpenClaim := { program := "ytefnflmabdpnbaa", sum := "705f47acf7bf4f81866dae505b28abb9a38901a13af79c623d73f3d81c4782e6", func := "barscan/barscanlaw04.GaloisExponents", spec := "galoisExponents", plainKeys := false, apart := false, narrowed := true }
def GaloisExponentsUptoSaid : Prop := galoisExponentsUptoRow.holds Try.pinned (OpenSpec.upto galoisExponentsSpec)

end Rows
end Go.Proofs.Ytefnflmabdpnbaa
