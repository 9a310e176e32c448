import Derived.Test.YtefnflmabdpnbaaApiP
namespace Go.Proofs.Ytefnflmabdpnbaa
open Go.RowKit
set_option linter.unusedVariables false
/-! the reference: Is, Inverse, raise -/
set_option maxHeartbeats 400000 in
theorem is_any (c s p a : Int) (w : World) :
    Calls Try.prog 17 #[fldv c s p, .int .i64 a] w fun e w' => e = .returned (.bool (isB s a)) ∧ Below w.heap.size w w' := by
  by_cases h0 : 0 ≤ a
  · by_cases h1 : a < s
    · have hI : Hid (isB s a = true) := by show _ = _; unfold isB; simp; omega
      go_enter Try.func17, Try.ntmps17
      go_wp2
      go_ret
      exact ⟨ret_bool (by rw [hI.out]), (Below.refl _ _).alloc (Nat.le_refl _) _⟩
    · have hI : Hid (isB s a = false) := by show _ = _; unfold isB; simp; omega
      go_enter Try.func17, Try.ntmps17
      go_wp2
      go_ret
      exact ⟨ret_bool (by rw [hI.out]), (Below.refl _ _).alloc (Nat.le_refl _) _⟩
  · have hI : Hid (isB s a = false) := by show _ = _; unfold isB; simp; omega
    go_enter Try.func17, Try.ntmps17
    go_wp2
    go_ret
    exact ⟨ret_bool (by rw [hI.out]), (Below.refl _ _).alloc (Nat.le_refl _) _⟩
set_option maxHeartbeats 400000 in
theorem rinverse_any (C S P : Nat) (a : Int) (w : World) (hv : VF C S P) (ha0 : 0 ≤ a) (ha : a < S) :
    Calls Try.prog 60 #[fldv C S P, .int .i64 a] w fun e w' => e = .returned (.int .i64 (finvN S P a.toNat : Nat)) ∧ Below w.heap.size w w' := by
  have hS := hv.le
  have hS2 := hv.two_le
  have HV := Lib.hid hv; clear hv
  have he : Hid (((S : Int) - 2).toNat = S - 2) := by show _ = _; omega
  go_enter Try.func60, Try.ntmps60
  go_wp2_with fail
  refine (rpower_any C S P _ _ _ HV.out ha0 ha (by omega) (by omega)).mono ?_
  rintro e w1 ⟨rfl, hb1⟩
  have hin1 := Lib.hid (InW.step (InW.start w C S P 23) hb1)
  clear hb1
  go_wp2_with fail
  go_ret
  exact ⟨ret_int (by rw [he.out]; rfl), hin1.out.below⟩
def zeroV (n : Int) : Int := if n = 0 then 1 else 0
set_option maxHeartbeats 400000 in
theorem raise_zero (C S P : Nat) (n : Int) (w : World) :
    Calls Try.prog 61 #[fldv C S P, .int .i64 0, .int .i64 n] w fun e w' => e = .returned (.int .i64 (zeroV n)) ∧ Below w.heap.size w w' := by
  by_cases h : n = 0
  · subst h
    go_enter Try.func61, Try.ntmps61
    go_wp2
    go_ret
    exact ⟨rfl, (Below.refl _ _).alloc (Nat.le_refl _) _⟩
  · have hb : ((n : Int) == 0) = false := beq_false_of_ne h
    have HH := Lib.hid h; clear h
    go_enter Try.func61, Try.ntmps61
    go_wp2
    go_ret
    exact ⟨ret_int (by unfold zeroV; rw [if_neg HH.out]), (Below.refl _ _).alloc (Nat.le_refl _) _⟩
theorem raise_mod (n M : Int) (h1 : 1 ≤ M) (h2 : M ≤ 5000) : (IntKind.i64.wrap (n.tmod M + M)).tmod M = n % M := by
  have a1 := Int.emod_nonneg n (show M ≠ 0 by omega)
  have a2 := Int.emod_lt_of_pos n (show 0 < M by omega)
  by_cases h0 : 0 ≤ n
  · have e : n.tmod M = n % M := Int.tmod_eq_emod_of_nonneg h0
    rw [e, IntWalk.i64_in _ (by omega), Int.tmod_eq_emod_of_nonneg (by omega), Int.add_emod_right, Int.emod_emod]
  · rcases tmod_neg n M h1 (by omega) with ⟨b1, b2, b3⟩ | ⟨b1, b2⟩
    · rw [IntWalk.i64_in _ (by omega), Int.tmod_eq_emod_of_nonneg (by omega), b2, Int.emod_emod]
    · rw [b1, b2, Int.zero_add, IntWalk.i64_in _ (by omega), Int.tmod_eq_emod_of_nonneg (by omega), Int.emod_self]
set_option maxHeartbeats 1000000 in
theorem raise_yes (C S P A : Nat) (n : Int) (w : World) (hv : VF C S P) (ha : A < S) (ha0 : 0 < A) (hn0 : -9223372036854775808 ≤ n) (hn1 : n ≤ 9223372036854775807) :
    Calls Try.prog 61 #[fldv C S P, .int .i64 A, .int .i64 n] w fun e w' => e = .returned (.int .i64 (fpowN S P A (n % ((S : Int) - 1)).toNat : Nat)) ∧ Below w.heap.size w w' := by
  have hS := hv.le
  have hS2 := hv.two_le
  have HV := Lib.hid hv; clear hv
  have he0 : 0 ≤ n % ((S : Int) - 1) := Int.emod_nonneg _ (by omega)
  have he1 : n % ((S : Int) - 1) < (S : Int) - 1 := Int.emod_lt_of_pos _ (by omega)
  have hbz : (((A : Nat) : Int) == 0) = false := by rw [beq_eq_false_iff_ne]; omega
  have HR := Lib.hid (raise_mod n ((S : Int) - 1) (by omega) (by omega))
  have hm : ¬ ((S : Int) - 1 = 0) := by omega
  go_enter Try.func61, Try.ntmps61
  go_wp2_with fail
  go_region_held3 (fun w' => (w'.cell? ⟨w.heap.size, 0, none⟩ = some (.int .i64 C) ∧ w'.cell? ⟨w.heap.size, 1, none⟩ = some (.int .i64 S) ∧ w'.cell? ⟨w.heap.size, 2, none⟩ = some (.int .i64 P)) ∧ InW w C S P w') (first | exact hold_of (InW.drew (InW.start w C S P _)) | exact hold_of (by assumption)) (first | (go_at_call 65; rw [HR.out]; refine (rpower_any C S P _ _ _ HV.out (by omega) (by omega) he0 (by omega)).mono ?_; rintro e v1 ⟨rfl, hv1⟩; have hi1 := InW.step (And.right (by assumption)) hv1))
  all_goals go_wp2
  all_goals go_ret
  all_goals exact ⟨ret_int (by simp), InW.below (And.right (by assumption))⟩
end Go.Proofs.Ytefnflmabdpnbaa
