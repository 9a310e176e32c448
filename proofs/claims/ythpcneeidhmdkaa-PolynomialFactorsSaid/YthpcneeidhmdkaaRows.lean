/-
  No cell of these rows narrows 'for every input' (looked for: loops, veiled, ifaces, maps, wideKeys, modest, calm, conditions, laid).
  DERIVED. THE GIVEN ROWS OF THIS SEAT. 11 by the template 'for every input the law returns true; each argument reads behind the call as it read before'; 0 by the template 'total and deterministic' (their statements: YthpcneeidhmdkaaTotals.lean).
  GIVEN WITH THE SEED: the statements are not yours to turn. If you find one false, say at which input.
  Laid BY PROGRAM, IN A SANDBOX (cutbox-rows.mjs): the forced cells as the released guide's own fill.sh prints them over the translation 41326151fb669906… (all of the seat's roots in one cut). By AI agents, Wed Nov 11 2026. No macro, syntax, notation, axiom, sorry.
-/
import Derived.Test.YthpcneeidhmdkaaChecked
import GoSem.Claim
import GoSem.ClaimJoined
import GoSem.ClaimMapViews
import Derived.JoinedTies
import Derived.KernelRfl
namespace Go.Proofs.Ythpcneeidhmdkaa
/- THE CELL 'sum', in the pinned program and in every row, IS THE sha256 OF THE DUMP (.gsa) THAT YthpcneeidhmdkaaProg.lean LOADS. Nothing in Lean hashes anything: it is a label: what it is worth is what the hold of that sum in a sandbox is worth. -/
noncomputable def Try.pinned : Pinned := { name := "ythpcneeidhmdkaa", sum := "41326151fb6699061d6172a6063f9614870a2981d85ac5b00611e4e5996bb84c", checked := Try.checked }
namespace Rows
def none {H : Type} : Left H := { results := [], args := [] }

/-- 'barscanlaw05.PolynomialMultiplies': WHATEVER THE INPUT: true; the input reads as it did. -/
def polynomialMultipliesSpec : ChangeSpec := { name := "polynomialMultiplies", fn := fun _ => fun
  | [d1, d2, d3] => { results := [.lit (.bool true)], args := [d1, d2, d3] }
  | _ => none }
def polynomialMultipliesRow : OpenClaim := { program := "ythpcneeidhmdkaa", sum := "41326151fb6699061d6172a6063f9614870a2981d85ac5b00611e4e5996bb84c", func := "barscan/barscanlaw05.PolynomialMultiplies", spec := "polynomialMultiplies", unfollowed := true, recurses := true, apart := false }
def PolynomialMultipliesSaid : Prop := polynomialMultipliesRow.holds Try.pinned (OpenSpec.ofChange polynomialMultipliesSpec)

/-- ITS FALSE NEIGHBOUR: 'it returns false'. Refute it at one input. -/
def polynomialMultipliesWrong : ChangeSpec := { name := "polynomialMultiplies", fn := fun _ => fun
  | [d1, d2, d3] => { results := [.lit (.bool false)], args := [d1, d2, d3] }
  | _ => none }
def PolynomialMultipliesWrongFalsely : Prop := polynomialMultipliesRow.holds Try.pinned (OpenSpec.ofChange polynomialMultipliesWrong)

/-- 'barscanlaw05.PolynomialInterpolates': WHATEVER THE INPUT: true; the input reads as it did. -/
def polynomialInterpolatesSpec : ChangeSpec := { name := "polynomialInterpolates", fn := fun _ => fun
  | [d1, d2, d3] => { results := [.lit (.bool true)], args := [d1, d2, d3] }
  | _ => none }
def polynomialInterpolatesRow : OpenClaim := { program := "ythpcneeidhmdkaa", sum := "41326151fb6699061d6172a6063f9614870a2981d85ac5b00611e4e5996bb84c", func := "barscan/barscanlaw05.PolynomialInterpolates", spec := "polynomialInterpolates", unfollowed := true, recurses := true, apart := false }
def PolynomialInterpolatesSaid : Prop := polynomialInterpolatesRow.holds Try.pinned (OpenSpec.ofChange polynomialInterpolatesSpec)

/-- ITS FALSE NEIGHBOUR: 'it returns false'. Refute it at one input. -/
def polynomialInterpolatesWrong : ChangeSpec := { name := "polynomialInterpolates", fn := fun _ => fun
  | [d1, d2, d3] => { results := [.lit (.bool false)], args := [d1, d2, d3] }
  | _ => none }
def PolynomialInterpolatesWrongFalsely : Prop := polynomialInterpolatesRow.holds Try.pinned (OpenSpec.ofChange polynomialInterpolatesWrong)

/-- 'barscanlaw05.PolynomialRestores': WHATEVER THE INPUT: true; the input reads as it did. -/
def polynomialRestoresSpec : ChangeSpec := { name := "polynomialRestores", fn := fun _ => fun
  | [d1, d2, d3] => { results := [.lit (.bool true)], args := [d1, d2, d3] }
  | _ => none }
def polynomialRestoresRow : OpenClaim := { program := "ythpcneeidhmdkaa", sum := "41326151fb6699061d6172a6063f9614870a2981d85ac5b00611e4e5996bb84c", func := "barscan/barscanlaw05.PolynomialRestores", spec := "polynomialRestores", unfollowed := true, recurses := true, apart := false }
def PolynomialRestoresSaid : Prop := polynomialRestoresRow.holds Try.pinned (OpenSpec.ofChange polynomialRestoresSpec)

/-- ITS FALSE NEIGHBOUR: 'it returns false'. Refute it at one input. -/
def polynomialRestoresWrong : ChangeSpec := { name := "polynomialRestores", fn := fun _ => fun
  | [d1, d2, d3] => { results := [.lit (.bool false)], args := [d1, d2, d3] }
  | _ => none }
def PolynomialRestoresWrongFalsely : Prop := polynomialRestoresRow.holds Try.pinned (OpenSpec.ofChange polynomialRestoresWrong)

/-- 'barscanlaw05.PolynomialDivides': WHATEVER THE INPUT: true; the input reads as it did. -/
def polynomialDividesSpec : ChangeSpec := { name := "polynomialDivides", fn := fun _ => fun
  | [d1, d2, d3] => { results := [.lit (.bool true)], args := [d1, d2, d3] }
  | _ => none }
def polynomialDividesRow : OpenClaim := { program := "ythpcneeidhmdkaa", sum := "41326151fb6699061d6172a6063f9614870a2981d85ac5b00611e4e5996bb84c", func := "barscan/barscanlaw05.PolynomialDivides", spec := "polynomialDivides", unfollowed := true, recurses := true, apart := false }
def PolynomialDividesSaid : Prop := polynomialDividesRow.holds Try.pinned (OpenSpec.ofChange polynomialDividesSpec)

/-- ITS FALSE NEIGHBOUR: 'it returns false'. Refute it at one input. -/
def polynomialDividesWrong : ChangeSpec := { name := "polynomialDivides", fn := fun _ => fun
  | [d1, d2, d3] => { results := [.lit (.bool false)], args := [d1, d2, d3] }
  | _ => none }
def PolynomialDividesWrongFalsely : Prop := polynomialDividesRow.holds Try.pinned (OpenSpec.ofChange polynomialDividesWrong)

/-- 'barscanlaw05.PolynomialEuclid': WHATEVER THE INPUT: true; the input reads as it did. -/
def polynomialEuclidSpec : ChangeSpec := { name := "polynomialEuclid", fn := fun _ => fun
  | [d1, d2, d3, d4] => { results := [.lit (.bool true)], args := [d1, d2, d3, d4] }
  | _ => none }
def polynomialEuclidRow : OpenClaim := { program := "ythpcneeidhmdkaa", sum := "41326151fb6699061d6172a6063f9614870a2981d85ac5b00611e4e5996bb84c", func := "barscan/barscanlaw05.PolynomialEuclid", spec := "polynomialEuclid", unfollowed := true, recurses := true, apart := false }
def PolynomialEuclidSaid : Prop := polynomialEuclidRow.holds Try.pinned (OpenSpec.ofChange polynomialEuclidSpec)

/-- ITS FALSE NEIGHBOUR: 'it returns false'. Refute it at one input. -/
def polynomialEuclidWrong : ChangeSpec := { name := "polynomialEuclid", fn := fun _ => fun
  | [d1, d2, d3, d4] => { results := [.lit (.bool false)], args := [d1, d2, d3, d4] }
  | _ => none }
def PolynomialEuclidWrongFalsely : Prop := polynomialEuclidRow.holds Try.pinned (OpenSpec.ofChange polynomialEuclidWrong)

/-- 'barscanlaw05.PolynomialEvaluates': WHATEVER THE INPUT: true; the input reads as it did. -/
def polynomialEvaluatesSpec : ChangeSpec := { name := "polynomialEvaluates", fn := fun _ => fun
  | [d1, d2, d3, d4] => { results := [.lit (.bool true)], args := [d1, d2, d3, d4] }
  | _ => none }
def polynomialEvaluatesRow : OpenClaim := { program := "ythpcneeidhmdkaa", sum := "41326151fb6699061d6172a6063f9614870a2981d85ac5b00611e4e5996bb84c", func := "barscan/barscanlaw05.PolynomialEvaluates", spec := "polynomialEvaluates", unfollowed := true, recurses := true, apart := false }
def PolynomialEvaluatesSaid : Prop := polynomialEvaluatesRow.holds Try.pinned (OpenSpec.ofChange polynomialEvaluatesSpec)

/-- ITS FALSE NEIGHBOUR: 'it returns false'. Refute it at one input. -/
def polynomialEvaluatesWrong : ChangeSpec := { name := "polynomialEvaluates", fn := fun _ => fun
  | [d1, d2, d3, d4] => { results := [.lit (.bool false)], args := [d1, d2, d3, d4] }
  | _ => none }
def PolynomialEvaluatesWrongFalsely : Prop := polynomialEvaluatesRow.holds Try.pinned (OpenSpec.ofChange polynomialEvaluatesWrong)

/-- 'barscanlaw05.PolynomialFactors': WHATEVER THE INPUT: true; the input reads as it did. -/
def polynomialFactorsSpec : ChangeSpec := { name := "polynomialFactors", fn := fun _ => fun
  | [d1, d2, d3] => { results := [.lit (.bool true)], args := [d1, d2, d3] }
  | _ => none }
def polynomialFactorsRow : OpenClaim := { program := "ythpcneeidhmdkaa", sum := "41326151fb6699061d6172a6063f9614870a2981d85ac5b00611e4e5996bb84c", func := "barscan/barscanlaw05.PolynomialFactors", spec := "polynomialFactors", unfollowed := true, recurses := true, apart := false }
def PolynomialFactorsSaid : Prop := polynomialFactorsRow.holds Try.pinned (OpenSpec.ofChange polynomialFactorsSpec)

/-- ITS FALSE NEIGHBOUR: 'it returns false'. Refute it at one input. -/
def polynomialFactorsWrong : ChangeSpec := { name := "polynomialFactors", fn := fun _ => fun
  | [d1, d2, d3] => { results := [.lit (.bool false)], args := [d1, d2, d3] }
  | _ => none }
def PolynomialFactorsWrongFalsely : Prop := polynomialFactorsRow.holds Try.pinned (OpenSpec.ofChange polynomialFactorsWrong)

/-- 'barscanlaw05.PolynomialDivision': WHATEVER THE INPUT: true; the input reads as it did. -/
def polynomialDivisionSpec : ChangeSpec := { name := "polynomialDivision", fn := fun _ => fun
  | [d1, d2, d3, d4] => { results := [.lit (.bool true)], args := [d1, d2, d3, d4] }
  | _ => none }
def polynomialDivisionRow : OpenClaim := { program := "ythpcneeidhmdkaa", sum := "41326151fb6699061d6172a6063f9614870a2981d85ac5b00611e4e5996bb84c", func := "barscan/barscanlaw05.PolynomialDivision", spec := "polynomialDivision", unfollowed := true, recurses := true, apart := false }
def PolynomialDivisionSaid : Prop := polynomialDivisionRow.holds Try.pinned (OpenSpec.ofChange polynomialDivisionSpec)

/-- ITS FALSE NEIGHBOUR: 'it returns false'. Refute it at one input. -/
def polynomialDivisionWrong : ChangeSpec := { name := "polynomialDivision", fn := fun _ => fun
  | [d1, d2, d3, d4] => { results := [.lit (.bool false)], args := [d1, d2, d3, d4] }
  | _ => none }
def PolynomialDivisionWrongFalsely : Prop := polynomialDivisionRow.holds Try.pinned (OpenSpec.ofChange polynomialDivisionWrong)

/-- 'barscanlaw05.PolynomialDerives': WHATEVER THE INPUT: true; the input reads as it did. -/
def polynomialDerivesSpec : ChangeSpec := { name := "polynomialDerives", fn := fun _ => fun
  | [d1, d2, d3] => { results := [.lit (.bool true)], args := [d1, d2, d3] }
  | _ => none }
def polynomialDerivesRow : OpenClaim := { program := "ythpcneeidhmdkaa", sum := "41326151fb6699061d6172a6063f9614870a2981d85ac5b00611e4e5996bb84c", func := "barscan/barscanlaw05.PolynomialDerives", spec := "polynomialDerives", unfollowed := true, recurses := true, apart := false }
def PolynomialDerivesSaid : Prop := polynomialDerivesRow.holds Try.pinned (OpenSpec.ofChange polynomialDerivesSpec)

/-- ITS FALSE NEIGHBOUR: 'it returns false'. Refute it at one input. -/
def polynomialDerivesWrong : ChangeSpec := { name := "polynomialDerives", fn := fun _ => fun
  | [d1, d2, d3] => { results := [.lit (.bool false)], args := [d1, d2, d3] }
  | _ => none }
def PolynomialDerivesWrongFalsely : Prop := polynomialDerivesRow.holds Try.pinned (OpenSpec.ofChange polynomialDerivesWrong)

/-- 'barscanlaw05.PolynomialRing': WHATEVER THE INPUT: true; the input reads as it did. -/
def polynomialRingSpec : ChangeSpec := { name := "polynomialRing", fn := fun _ => fun
  | [d1, d2, d3, d4, d5] => { results := [.lit (.bool true)], args := [d1, d2, d3, d4, d5] }
  | _ => none }
def polynomialRingRow : OpenClaim := { program := "ythpcneeidhmdkaa", sum := "41326151fb6699061d6172a6063f9614870a2981d85ac5b00611e4e5996bb84c", func := "barscan/barscanlaw05.PolynomialRing", spec := "polynomialRing", unfollowed := true, recurses := true, apart := false }
def PolynomialRingSaid : Prop := polynomialRingRow.holds Try.pinned (OpenSpec.ofChange polynomialRingSpec)

/-- ITS FALSE NEIGHBOUR: 'it returns false'. Refute it at one input. -/
def polynomialRingWrong : ChangeSpec := { name := "polynomialRing", fn := fun _ => fun
  | [d1, d2, d3, d4, d5] => { results := [.lit (.bool false)], args := [d1, d2, d3, d4, d5] }
  | _ => none }
def PolynomialRingWrongFalsely : Prop := polynomialRingRow.holds Try.pinned (OpenSpec.ofChange polynomialRingWrong)

/-- 'barscanlaw05.PolynomialAdds': WHATEVER THE INPUT: true; the input reads as it did. -/
def polynomialAddsSpec : ChangeSpec := { name := "polynomialAdds", fn := fun _ => fun
  | [d1, d2, d3, d4] => { results := [.lit (.bool true)], args := [d1, d2, d3, d4] }
  | _ => none }
def polynomialAddsRow : OpenClaim := { program := "ythpcneeidhmdkaa", sum := "41326151fb6699061d6172a6063f9614870a2981d85ac5b00611e4e5996bb84c", func := "barscan/barscanlaw05.PolynomialAdds", spec := "polynomialAdds", unfollowed := true, recurses := true, apart := false }
def PolynomialAddsSaid : Prop := polynomialAddsRow.holds Try.pinned (OpenSpec.ofChange polynomialAddsSpec)

/-- ITS FALSE NEIGHBOUR: 'it returns false'. Refute it at one input. -/
def polynomialAddsWrong : ChangeSpec := { name := "polynomialAdds", fn := fun _ => fun
  | [d1, d2, d3, d4] => { results := [.lit (.bool false)], args := [d1, d2, d3, d4] }
  | _ => none }
def PolynomialAddsWrongFalsely : Prop := polynomialAddsRow.holds Try.pinned (OpenSpec.ofChange polynomialAddsWrong)

/- THE SECOND FORM. 'bulk': how many values and letters a reading holds, each counted each time it is reached (what is shared counts as often as it is met; a slice's spare places count too). A statement '..UptoSaid' is the law's where the arguments, and the package variables that the reading takes, are together of bulk at most 1048576: NARROWER than '..Said'. Prove '..Said' where nothing that the law and all that it calls make is longer than what came in: it says more and counts as full. Else prove '..UptoSaid'. A law counts once. -/
mutual
def uptoBulk {H : Type} : DataW H → Nat
  | .lit (.string bytes) => bytes.length + 1
  | .lit _ => 1
  | .nil => 1
  | .ptr d => uptoBulk d + 1
  | .slice elems spare => uptoBulkAll elems + uptoBulkAll spare + 1
  | .agg parts => uptoBulkAll parts + 1
  | .iface _ d => uptoBulk d + 1
  | .map entries => uptoBulkEntries entries + 1
  | .held _ => 1
def uptoBulkAll {H : Type} : List (DataW H) → Nat
  | [] => 0
  | d :: r => uptoBulk d + uptoBulkAll r
def uptoBulkEntries {H : Type} : List (Lit × DataW H) → Nat
  | [] => 0
  | x :: r => uptoBulkEntry x + uptoBulkEntries r
def uptoBulkEntry {H : Type} : Lit × DataW H → Nat
  | (.string bytes, d) => bytes.length + uptoBulk d + 1
  | (_, d) => uptoBulk d + 1
 end
def uptoSmall : (H : Type) → List (DataW H) → Bool := fun _ ds => decide (uptoBulkAll ds ≤ 1048576)
def OpenSpec.upto (s : _root_.Go.ChangeSpec) : _root_.Go.OpenSpec := { _root_.Go.OpenSpec.ofChange s with cond := some uptoSmall }

/-- 'barscanlaw05.PolynomialMultiplies', WHERE WHAT IT READS IS OF BULK AT MOST 1048576: true; the input reads as it did. -/
def polynomialMultipliesUptoRow : OpenClaim := { program := "ythpcneeidhmdkaa", sum := "41326151fb6699061d6172a6063f9614870a2981d85ac5b00611e4e5996bb84c", func := "barscan/barscanlaw05.PolynomialMultiplies", spec := "polynomialMultiplies", unfollowed := true, recurses := true, apart := false, narrowed := true }
def PolynomialMultipliesUptoSaid : Prop := polynomialMultipliesUptoRow.holds Try.pinned (OpenSpec.upto polynomialMultipliesSpec)

/-- 'barscanlaw05.PolynomialInterpolates', WHERE WHAT IT READS IS OF BULK AT MOST 1048576: true; the input reads as it did. -/
def polynomialInterpolatesUptoRow : OpenClaim := { program := "ythpcneeidhmdkaa", sum := "41326151fb6699061d6172a6063f9614870a2981d85ac5b00611e4e5996bb84c", func := "barscan/barscanlaw05.PolynomialInterpolates", spec := "polynomialInterpolates", unfollowed := true, recurses := true, apart := false, narrowed := true }
def PolynomialInterpolatesUptoSaid : Prop := polynomialInterpolatesUptoRow.holds Try.pinned (OpenSpec.upto polynomialInterpolatesSpec)

/-- 'barscanlaw05.PolynomialRestores', WHERE WHAT IT READS IS OF BULK AT MOST 1048576: true; the input reads as it did. -/
def polynomialRestoresUptoRow : OpenClaim := { program := "ythpcneeidhmdkaa", sum := "41326151fb6699061d6172a6063f9614870a2981d85ac5b00611e4e5996bb84c", func := "barscan/barscanlaw05.PolynomialRestores", spec := "polynomialRestores", unfollowed := true, recurses := true, apart := false, narrowed := true }
def PolynomialRestoresUptoSaid : Prop := polynomialRestoresUptoRow.holds Try.pinned (OpenSpec.upto polynomialRestoresSpec)

/-- 'barscanlaw05.PolynomialDivides', WHERE WHAT IT READS IS OF BULK AT MOST 1048576: true; the input reads as it did. -/
def polynomialDividesUptoRow : OpenClaim := { program := "ythpcneeidhmdkaa", sum := "41326151fb6699061d6172a6063f9614870a2981d85ac5b00611e4e5996bb84c", func := "barscan/barscanlaw05.PolynomialDivides", spec := "polynomialDivides", unfollowed := true, recurses := true, apart := false, narrowed := true }
def PolynomialDividesUptoSaid : Prop := polynomialDividesUptoRow.holds Try.pinned (OpenSpec.upto polynomialDividesSpec)

/-- 'barscanlaw05.PolynomialEuclid', WHERE WHAT IT READS IS OF BULK AT MOST 1048576: true; the input reads as it did. -/
def polynomialEuclidUptoRow : OpenClaim := { program := "ythpcneeidhmdkaa", sum := "41326151fb6699061d6172a6063f9614870a2981d85ac5b00611e4e5996bb84c", func := "barscan/barscanlaw05.PolynomialEuclid", spec := "polynomialEuclid", unfollowed := true, recurses := true, apart := false, narrowed := true }
def PolynomialEuclidUptoSaid : Prop := polynomialEuclidUptoRow.holds Try.pinned (OpenSpec.upto polynomialEuclidSpec)

/-- 'barscanlaw05.PolynomialEvaluates', WHERE WHAT IT READS IS OF BULK AT MOST 1048576: true; the input reads as it did. -/
def polynomialEvaluatesUptoRow : OpenClaim := { program := "ythpcneeidhmdkaa", sum := "41326151fb6699061d6172a6063f9614870a2981d85ac5b00611e4e5996bb84c", func := "barscan/barscanlaw05.PolynomialEvaluates", spec := "polynomialEvaluates", unfollowed := true, recurses := true, apart := false, narrowed := true }
def PolynomialEvaluatesUptoSaid : Prop := polynomialEvaluatesUptoRow.holds Try.pinned (OpenSpec.upto polynomialEvaluatesSpec)

/-- 'barscanlaw05.PolynomialFactors', WHERE WHAT IT READS IS OF BULK AT MOST 1048576: true; the input reads as it did. -/
def polynomialFactorsUptoRow : OpenClaim := { program := "ythpcneeidhmdkaa", sum := "41326151fb6699061d6172a6063f9614870a2981d85ac5b00611e4e5996bb84c", func := "barscan/barscanlaw05.PolynomialFactors", spec := "polynomialFactors", unfollowed := true, recurses := true, apart := false, narrowed := true }
def PolynomialFactorsUptoSaid : Prop := polynomialFactorsUptoRow.holds Try.pinned (OpenSpec.upto polynomialFactorsSpec)

/-- 'barscanlaw05.PolynomialDivision', WHERE WHAT IT READS IS OF BULK AT MOST 1048576: true; the input reads as it did. -/
def polynomialDivisionUptoRow : OpenClaim := { program := "ythpcneeidhmdkaa", sum := "41326151fb6699061d6172a6063f9614870a2981d85ac5b00611e4e5996bb84c", func := "barscan/barscanlaw05.PolynomialDivision", spec := "polynomialDivision", unfollowed := true, recurses := true, apart := false, narrowed := true }
def PolynomialDivisionUptoSaid : Prop := polynomialDivisionUptoRow.holds Try.pinned (OpenSpec.upto polynomialDivisionSpec)

/-- 'barscanlaw05.PolynomialDerives', WHERE WHAT IT READS IS OF BULK AT MOST 1048576: true; the input reads as it did. -/
def polynomialDerivesUptoRow : OpenClaim := { program := "ythpcneeidhmdkaa", sum := "41326151fb6699061d6172a6063f9614870a2981d85ac5b00611e4e5996bb84c", func := "barscan/barscanlaw05.PolynomialDerives", spec := "polynomialDerives", unfollowed := true, recurses := true, apart := false, narrowed := true }
def PolynomialDerivesUptoSaid : Prop := polynomialDerivesUptoRow.holds Try.pinned (OpenSpec.upto polynomialDerivesSpec)

/-- 'barscanlaw05.PolynomialRing', WHERE WHAT IT READS IS OF BULK AT MOST 1048576: true; the input reads as it did. -/
def polynomialRingUptoRow : OpenClaim := { program := "ythpcneeidhmdkaa", sum := "41326151fb6699061d6172a6063f9614870a2981d85ac5b00611e4e5996bb84c", func := "barscan/barscanlaw05.PolynomialRing", spec := "polynomialRing", unfollowed := true, recurses := true, apart := false, narrowed := true }
def PolynomialRingUptoSaid : Prop := polynomialRingUptoRow.holds Try.pinned (OpenSpec.upto polynomialRingSpec)

/-- 'barscanlaw05.PolynomialAdds', WHERE WHAT IT READS IS OF BULK AT MOST 1048576: true; the input reads as it did. -/
def polynomialAddsUptoRow : OpenClaim := { program := "ythpcneeidhmdkaa", sum := "41326151fb6699061d6172a6063f9614870a2981d85ac5b00611e4e5996bb84c", func := "barscan/barscanlaw05.PolynomialAdds", spec := "polynomialAdds", unfollowed := true, recurses := true, apart := false, narrowed := true }
def PolynomialAddsUptoSaid : Prop := polynomialAddsUptoRow.holds Try.pinned (OpenSpec.upto polynomialAddsSpec)

end Rows
end Go.Proofs.Ythpcneeidhmdkaa
