import Derived.Test.YtefnflmabdpnbaaWalkI
namespace Go.Proofs.Ytefnflmabdpnbaa
open Go.RowKit
set_option linter.unusedVariables false
theorem has2_any (c s p a b : Int) (k : Nat) (w : World) (hp : p ≤ 9223372036854775807) (hk : k < w.heap.size) (h0 : w.cell? ⟨k, 0, none⟩ = some (.int .i64 a)) (h1 : w.cell? ⟨k, 1, none⟩ = some (.int .i64 b)) :
    Calls Try.prog 47 #[fldv c s p, .slice (some ⟨k, 0, none⟩) 2 2] w fun e w' => e = .returned (.bool (vldB c s p && inB s [a, b])) ∧ Below w.heap.size w w' := by
  cases hv : vldB c s p
  · exact has_no c s p _ w hp hv
  · refine has_yes c s p [a, b] k w hp hv (by simp) hk ?_
    intro i hi
    match i, hi with
    | 0, _ => exact h0
    | 1, _ => exact h1
    | n + 2, hi => simp at hi; omega
theorem has1_any (c s p a : Int) (k : Nat) (w : World) (hp : p ≤ 9223372036854775807) (hk : k < w.heap.size) (h0 : w.cell? ⟨k, 0, none⟩ = some (.int .i64 a)) :
    Calls Try.prog 47 #[fldv c s p, .slice (some ⟨k, 0, none⟩) 1 1] w fun e w' => e = .returned (.bool (vldB c s p && inB s [a])) ∧ Below w.heap.size w w' := by
  cases hv : vldB c s p
  · exact has_no c s p _ w hp hv
  · refine has_yes c s p [a] k w hp hv (by simp) hk ?_
    intro i hi
    match i, hi with
    | 0, _ => exact h0
    | n + 1, hi => simp at hi
theorem has0_any (c s p : Int) (w : World) (hp : p ≤ 9223372036854775807) :
    Calls Try.prog 47 #[fldv c s p, .slice none 0 0] w fun e w' => e = .returned (.bool (vldB c s p)) ∧ Below w.heap.size w w' := by
  cases hv : vldB c s p
  · exact has_no c s p _ w hp hv
  · exact has_yes0 c s p w hp hv
/-- two results as a value -/
abbrev tup (x : Int × Int) : Value := .tuple #[.int .i64 x.1, .int .i64 x.2]
theorem vld_nat {c s p : Int} (h : vldB c s p = true) : ∃ C S P : Nat, c = C ∧ s = S ∧ p = P ∧ VF C S P := by
  unfold vldB at h
  by_cases hp : p = 0
  · rw [if_pos hp] at h
    simp only [Bool.and_eq_true, decide_eq_true_iff] at h
    obtain ⟨⟨⟨h1, h2⟩, h3⟩, h4⟩ := h
    refine ⟨c.toNat, s.toNat, 0, by omega, by omega, by omega, .inl ⟨rfl, by omega, by omega, by omega, h4⟩⟩
  · rw [if_neg hp] at h
    simp only [Bool.and_eq_true, decide_eq_true_iff] at h
    obtain ⟨⟨⟨⟨h1, h2⟩, h3⟩, h4⟩, h5⟩ := h
    have hb := two_le_bl p h1
    have hs : s.toNat = 2 ^ (bl p.toNat - 1) := by rw [h4]; exact Int.toNat_natCast _
    have hs2 : s = (s.toNat : Int) := (Int.toNat_of_nonneg (by rw [h4]; exact Int.natCast_nonneg _)).symm
    exact ⟨2, s.toNat, p.toNat, h3, hs2, by omega, .inr ⟨bl p.toNat - 1, by omega, by omega, by omega, hs, rfl, h5⟩⟩
end Go.Proofs.Ytefnflmabdpnbaa
