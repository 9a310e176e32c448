import Derived.Test.YtefnflmabdpnbaaLawKit
namespace Go.Proofs.Ytefnflmabdpnbaa
open Go.ChangeShapes Go.WideShapes Go.ChangeAt Go.RowKit
set_option linter.unusedVariables false
theorem okWide_arr {P : Program} {w : World} {r : Reach} {base : Nat} {t e : TypeId} {n : Nat} {v : Value} (ht : P.underlying t = some (.array n e)) (h : Value.okWide P w r base t v) : ∃ cs, v = .agg cs ∧ cs.size = P.cellsOf t := by
  simp only [Value.okWide, ht] at h
  obtain ⟨cs, h1, h2, _⟩ := h
  exact ⟨cs, h1, h2⟩
theorem open_arr2 {H : Type} {enc : TypeId × Value → H} {W : World} {base b0 : Nat} {sp : Nat → Bool} {held : Bool} {r : Reach} {v : Value} {d : DataW H} {p : List MemPlace}
    (hv : Value.okWide Try.prog W r b0 39 v) (h : DataW.Trod enc Try.prog W base sp held 39 v d p) :
    ∃ x y : Int, v = .agg #[.int .i64 x, .int .i64 y] := by
  have hu := Try.underlying39
  obtain ⟨cs, rfl, hsz⟩ := okWide_arr hu hv
  have hC : Try.prog.cellsOf 39 = 2 := by kernel_rfl
  have hI : Try.prog.cellsOf 3 = 1 := by kernel_rfl
  obtain ⟨l⟩ := cs
  match l, hsz.trans hC with
  | [a, b], _ =>
    obtain ⟨fuel, hf⟩ := h
    obtain ⟨xs, m, _, _, _, hlen, hf2⟩ := DataW.trod_array hu hf
    match xs, hlen with
    | [y0, y1], _ =>
      have g0 := hf2 0 (by omega)
      have g1 := hf2 1 (by omega)
      rw [hI] at g0 g1
      obtain ⟨a0, e0, -, -⟩ := DataW.trod_int Try.underlying3 g0
      obtain ⟨a1, e1, -, -⟩ := DataW.trod_int Try.underlying3 g1
      simp [Value.cells] at e0 e1
      subst e0 e1
      exact ⟨_, _, rfl⟩
end Go.Proofs.Ytefnflmabdpnbaa
