import Derived.Test.YtefnflmabdpnbaaWalkH
import Derived.Test.YtefnflmabdpnbaaOrd
import Derived.Deep.RegionHeld3
namespace Go.Proofs.Ytefnflmabdpnbaa
open Go.RowKit
set_option linter.unusedVariables false
theorem tmod_neg (n m : Int) (hm : 1 ≤ m) (hn : n < 0) : (n.tmod m < 0 ∧ n.tmod m + m = n % m ∧ 1 - m ≤ n.tmod m) ∨ (n.tmod m = 0 ∧ n % m = 0) := by
  have h1 := Int.emod_nonneg n (show m ≠ 0 by omega)
  have h2 := Int.emod_lt_of_pos n (show 0 < m by omega)
  rw [Int.tmod_eq_emod]
  by_cases h : m ∣ n
  · right
    rw [if_pos (.inr h), Int.emod_eq_zero_of_dvd h]; omega
  · left
    have h3 : n % m ≠ 0 := fun e => h (Int.dvd_of_emod_eq_zero e)
    rw [if_neg (by omega)]; omega
set_option maxHeartbeats 400000 in
theorem exponent_any (C S P : Nat) (n : Int) (w : World) (hS2 : 2 ≤ S) (hS : S ≤ 4096) (hn0 : -9223372036854775808 ≤ n) (hn : n ≤ 9223372036854775807) :
    Calls Try.prog 52 #[fldv C S P, .int .i64 n] w fun e w' => e = .returned (.int .i64 (n % ((S : Int) - 1))) ∧ Below w.heap.size w w' := by
  by_cases h0 : 0 ≤ n
  · have h1 : 0 ≤ n % ((S : Int) - 1) := Int.emod_nonneg _ (by omega)
    go_enter Try.func52, Try.ntmps52
    go_wp2
    go_ret
    exact ⟨rfl, (Below.refl _ _).alloc (Nat.le_refl _) _⟩
  · rcases tmod_neg n ((S : Int) - 1) (by omega) (by omega) with ⟨h1, h2, h3⟩ | ⟨h1, h2⟩
    · have H2 := Lib.hid h2; clear h2
      go_enter Try.func52, Try.ntmps52
      go_wp2
      go_ret
      exact ⟨ret_int H2.out, (Below.refl _ _).alloc (Nat.le_refl _) _⟩
    · have H2 := Lib.hid h2; clear h2
      have h3 : 0 ≤ n.tmod ((S : Int) - 1) := by omega
      have H1 := Lib.hid h1; clear h1
      go_enter Try.func52, Try.ntmps52
      go_wp2
      go_ret
      exact ⟨ret_int (by rw [H2.out]; exact H1.out), (Below.refl _ _).alloc (Nat.le_refl _) _⟩
set_option maxHeartbeats 400000 in
theorem order_nat (C S P a k : Nat) (w : World) (hv : VF C S P) (ha : a < S) (hk : OrdN S P a k) (hk4 : k ≤ 4096) :
    Calls Try.prog 53 #[fldv C S P, .int .i64 a] w fun e w' => e = .returned (.int .i64 k) ∧ Below w.heap.size w w' := by
  have hS := hv.le
  have hS2 := hv.two_le
  have HV := Lib.hid hv; clear hv
  have hk1 := hk.1
  have HK := Lib.hid hk; clear hk
  go_enter Try.func53, Try.ntmps53
  go_wp2_with fail
  go_loopw [5, 6] (fun y x wr => ∃ j X : Nat, y = .int .i64 j ∧ x = .int .i64 X ∧ 1 ≤ j ∧ j ≤ k ∧ X < S ∧ Hid (X = fpowN S P a j) ∧ InW w C S P wr) (fun y _ _ => k - (intOf y).toNat)
  case atStart => exact ⟨1, a, rfl, rfl, by omega, by omega, ha, (one_mulN HV.out a ha).symm, InW.start w C S P _⟩
  case round =>
    obtain ⟨j, X, rfl, rfl, hj1, hj, hX, hid, hin⟩ := hrel
    obtain ⟨hbl, hsz, hc0, hc1, hc2⟩ := id hin
    have HIN := Lib.hid hin; clear hin
    have HBL := Lib.hid hbl; clear hbl
    by_cases h1 : X = 1
    · subst h1
      have hjk : j = k := by
        by_cases h : j < k
        · exact absurd hid.out.symm (HK.out.2.2 j hj1 h)
        · omega
      have HJ := Lib.hid hjk; clear hjk
      go_wp2_with fail
      go_ret
      exact ⟨ret_int (by rw [HJ.out]), HBL.out⟩
    · have hjk : j < k := by
        rcases Nat.lt_or_ge j k with h | h
        · exact h
        · exfalso; apply h1
          have : j = k := by omega
          subst this
          rw [hid.out]; exact HK.out.2.1
      have hne : (((X : Nat) : Int) != 1) = true := by rw [bne_iff_ne]; omega
      have HE : Hid (fmulN S P X a = fpowN S P a (j + 1)) := by show _ = fmulN S P (fpowN S P a j) a; rw [← hid.out]
      clear h1 hid
      go_wp2_with (go_at_call 49; refine (product_any C S P _ _ _ HV.out (by omega) (by omega) (by omega) (by omega)).mono ?_; rintro e w1 ⟨rfl, hb1⟩)
      exact ⟨⟨j + 1, fmulN S P X a, by go_num, rfl, by omega, by omega, fmul_lt HV.out _ _, HE.out, HIN.out.step hb1⟩, by simp [intOf]; omega⟩
set_option maxHeartbeats 400000 in
theorem rorder_nat (C S P a k : Nat) (w : World) (hv : VF C S P) (ha : a < S) (hk : OrdN S P a k) (hk4 : k < S) :
    Calls Try.prog 54 #[fldv C S P, .int .i64 a] w fun e w' => e = .returned (.int .i64 k) ∧ Below w.heap.size w w' := by
  have hS := hv.le
  have hS2 := hv.two_le
  have HV := Lib.hid hv; clear hv
  have hk1 := hk.1
  have HK := Lib.hid hk; clear hk
  go_enter Try.func54, Try.ntmps54
  go_wp2_with fail
  go_loopw [5, 6] (fun y x wr => ∃ j X : Nat, y = .int .i64 j ∧ x = .int .i64 X ∧ 1 ≤ j ∧ j ≤ k ∧ X < S ∧ Hid (X = fpowN S P a j) ∧ InW w C S P wr) (fun y _ _ => k - (intOf y).toNat)
  case atStart => exact ⟨1, a, rfl, rfl, by omega, by omega, ha, (one_mulN HV.out a ha).symm, InW.start w C S P _⟩
  case round =>
    obtain ⟨j, X, rfl, rfl, hj1, hj, hX, hid, hin⟩ := hrel
    obtain ⟨hbl, hsz, hc0, hc1, hc2⟩ := id hin
    have HIN := Lib.hid hin; clear hin
    have HBL := Lib.hid hbl; clear hbl
    by_cases h1 : X = 1
    · subst h1
      have hjk : j = k := by
        by_cases h : j < k
        · exact absurd hid.out.symm (HK.out.2.2 j hj1 h)
        · omega
      have HJ := Lib.hid hjk; clear hjk
      go_wp2_with fail
      go_ret
      exact ⟨ret_int (by rw [HJ.out]), HBL.out⟩
    · have hjk : j < k := by
        rcases Nat.lt_or_ge j k with h | h
        · exact h
        · exfalso; apply h1
          have : j = k := by omega
          subst this
          rw [hid.out]; exact HK.out.2.1
      have hne : (((X : Nat) : Int) != 1) = true := by rw [bne_iff_ne]; omega
      have HE : Hid (fmulN S P X a = fpowN S P a (j + 1)) := by show _ = fmulN S P (fpowN S P a j) a; rw [← hid.out]
      clear h1 hid
      go_wp2_with (go_at_call 56; refine (times_any C S P _ _ _ HV.out (by omega) (by omega) (by omega) (by omega)).mono ?_; rintro e w1 ⟨rfl, hb1⟩)
      exact ⟨⟨j + 1, fmulN S P X a, by go_num, rfl, by omega, by omega, fmul_lt HV.out _ _, HE.out, HIN.out.step hb1⟩, by simp [intOf]; omega⟩
theorem order_any (C S P : Nat) (a : Int) (w : World) (hv : VF C S P) (ha0 : 0 < a) (ha : a < S) :
    Calls Try.prog 53 #[fldv C S P, .int .i64 a] w fun e w' => e = .returned (.int .i64 (ordF S P a.toNat : Nat)) ∧ Below w.heap.size w w' := by
  obtain ⟨A, rfl⟩ := Int.eq_ofNat_of_zero_le (Int.le_of_lt ha0)
  have hk := ordF_spec hv (a := A) (by omega) (by omega)
  have := hv.le
  rw [Int.toNat_natCast]
  exact order_nat C S P A _ w hv (by omega) hk.1 (by have := hk.2; omega)
theorem rorder_any (C S P : Nat) (a : Int) (w : World) (hv : VF C S P) (ha0 : 0 < a) (ha : a < S) :
    Calls Try.prog 54 #[fldv C S P, .int .i64 a] w fun e w' => e = .returned (.int .i64 (ordF S P a.toNat : Nat)) ∧ Below w.heap.size w w' := by
  obtain ⟨A, rfl⟩ := Int.eq_ofNat_of_zero_le (Int.le_of_lt ha0)
  have hk := ordF_spec hv (a := A) (by omega) (by omega)
  rw [Int.toNat_natCast]
  exact rorder_nat C S P A _ w hv (by omega) hk.1 (by have := hk.2; omega)

theorem hold_of {w : World} {c s p : Int} {wr : World} (h : InW w c s p wr) : (wr.cell? ⟨w.heap.size, 0, none⟩ = some (.int .i64 c) ∧ wr.cell? ⟨w.heap.size, 1, none⟩ = some (.int .i64 s) ∧ wr.cell? ⟨w.heap.size, 2, none⟩ = some (.int .i64 p)) ∧ InW w c s p wr := ⟨h.2.2, h⟩
/-! the generator -/
set_option maxHeartbeats 1000000 in
theorem generator_any (C S P : Nat) (w : World) (hv : VF C S P) :
    Calls Try.prog 51 #[fldv C S P] w fun e w' => e = .returned (.int .i64 (genF S P : Nat)) ∧ Below w.heap.size w w' := by
  have hS := hv.le
  have hS2 := hv.two_le
  have hg := genF_spec hv
  have hg1 := hg.1
  have hg2 := hg.2.1
  have HV := Lib.hid hv; clear hv
  have HG := Lib.hid hg; clear hg
  go_enter Try.func51, Try.ntmps51
  go_wp2_with fail
  go_loopw [3] (fun x wr => ∃ X : Nat, x = .int .i64 X ∧ 1 ≤ X ∧ X ≤ genF S P ∧ InW w C S P wr) (fun x _ => genF S P - (intOf x).toNat)
  case atStart => exact ⟨1, rfl, by omega, by omega, InW.start w C S P _⟩
  case round =>
    obtain ⟨X, rfl, hX1, hX, hin⟩ := hrel
    obtain ⟨hbl, hsz, hc0, hc1, hc2⟩ := id hin
    have HIN := Lib.hid hin; clear hin
    have HBL := Lib.hid hbl; clear hbl
    have hXS : X < S := by omega
    have HG2 := Lib.hid hg2; clear hg2
    by_cases hlt : X < genF S P
    · have hne : (((ordF S P X : Nat) : Int) != (S : Int) - 1) = true := by
        rw [bne_iff_ne]; intro e
        have h1 := ordF_spec HV.out (a := X) (by have := HG2.out; omega) (by omega)
        have e2 : ordF S P X = S - 1 := by omega
        rw [e2] at h1
        exact HG.out.2.2.2 X hX1 hlt h1.1
      have hwr : IntKind.i64.wrap ((S : Int) - 1) = (S : Int) - 1 := IntWalk.i64_in _ (by omega)
      go_wp2_with fail
      go_region_held3 (fun w' => (w'.cell? ⟨w.heap.size, 0, none⟩ = some (.int .i64 C) ∧ w'.cell? ⟨w.heap.size, 1, none⟩ = some (.int .i64 S) ∧ w'.cell? ⟨w.heap.size, 2, none⟩ = some (.int .i64 P)) ∧ InW w C S P w') (first | exact hold_of (InW.drew HIN.out) | exact hold_of (by assumption)) (first | (go_at_call 53; refine (order_any C S P _ _ HV.out (by omega) (by have := HG2.out; omega)).mono ?_; rintro e w1 ⟨rfl, hb1⟩; have hin1 := InW.step (And.right (by assumption)) hb1))
      all_goals clear hwr
      all_goals go_wp2
      all_goals exact ⟨⟨X + 1, by go_num, by omega, by omega, And.right (by assumption)⟩, by simp [intOf]; omega⟩
    · have hX2 : X = genF S P := by omega
      have hne : (((ordF S P X : Nat) : Int) != (S : Int) - 1) = false := by
        rw [hX2, ordF_of HG.out.2.2.1, bne_eq_false_iff_eq]; omega
      have HX := Lib.hid hX2; clear hX2
      have hwr : IntKind.i64.wrap ((S : Int) - 1) = (S : Int) - 1 := IntWalk.i64_in _ (by omega)
      go_wp2_with fail
      go_region_held3 (fun w' => (w'.cell? ⟨w.heap.size, 0, none⟩ = some (.int .i64 C) ∧ w'.cell? ⟨w.heap.size, 1, none⟩ = some (.int .i64 S) ∧ w'.cell? ⟨w.heap.size, 2, none⟩ = some (.int .i64 P)) ∧ InW w C S P w') (first | exact hold_of (InW.drew HIN.out) | exact hold_of (by assumption)) (first | (go_at_call 53; refine (order_any C S P _ _ HV.out (by omega) (by have := HG2.out; omega)).mono ?_; rintro e w1 ⟨rfl, hb1⟩; have hin1 := InW.step (And.right (by assumption)) hb1))
      all_goals clear hwr
      all_goals go_wp2
      all_goals go_ret
      all_goals exact ⟨ret_int (by rw [HX.out]), InW.below (And.right (by assumption))⟩
set_option maxHeartbeats 1000000 in
theorem primitive_any (C S P : Nat) (w : World) (hv : VF C S P) :
    Calls Try.prog 55 #[fldv C S P] w fun e w' => e = .returned (.int .i64 (genF S P : Nat)) ∧ Below w.heap.size w w' := by
  have hS := hv.le
  have hS2 := hv.two_le
  have hg := genF_spec hv
  have hg1 := hg.1
  have hg2 := hg.2.1
  have HV := Lib.hid hv; clear hv
  have HG := Lib.hid hg; clear hg
  go_enter Try.func55, Try.ntmps55
  go_wp2_with fail
  go_loopw [3] (fun x wr => ∃ X : Nat, x = .int .i64 X ∧ 1 ≤ X ∧ X ≤ genF S P ∧ InW w C S P wr) (fun x _ => genF S P - (intOf x).toNat)
  case atStart => exact ⟨1, rfl, by omega, by omega, InW.start w C S P _⟩
  case round =>
    obtain ⟨X, rfl, hX1, hX, hin⟩ := hrel
    obtain ⟨hbl, hsz, hc0, hc1, hc2⟩ := id hin
    have HIN := Lib.hid hin; clear hin
    have HBL := Lib.hid hbl; clear hbl
    have hXS : X < S := by omega
    have HG2 := Lib.hid hg2; clear hg2
    by_cases hlt : X < genF S P
    · have hne : (((ordF S P X : Nat) : Int) == (S : Int) - 1) = false := by
        rw [beq_eq_false_iff_ne]; intro e
        have h1 := ordF_spec HV.out (a := X) (by have := HG2.out; omega) (by omega)
        have e2 : ordF S P X = S - 1 := by omega
        rw [e2] at h1
        exact HG.out.2.2.2 X hX1 hlt h1.1
      have hwr : IntKind.i64.wrap ((S : Int) - 1) = (S : Int) - 1 := IntWalk.i64_in _ (by omega)
      go_wp2_with fail
      go_region_held3 (fun w' => (w'.cell? ⟨w.heap.size, 0, none⟩ = some (.int .i64 C) ∧ w'.cell? ⟨w.heap.size, 1, none⟩ = some (.int .i64 S) ∧ w'.cell? ⟨w.heap.size, 2, none⟩ = some (.int .i64 P)) ∧ InW w C S P w') (first | exact hold_of (InW.drew HIN.out) | exact hold_of (by assumption)) (first | (go_at_call 54; refine (rorder_any C S P _ _ HV.out (by omega) (by omega)).mono ?_; rintro e w1 ⟨rfl, hb1⟩; have hin1 := InW.step (And.right (by assumption)) hb1))
      all_goals clear hwr
      all_goals go_wp2
      all_goals exact ⟨⟨X + 1, by go_num, by omega, by omega, And.right (by assumption)⟩, by simp [intOf]; omega⟩
    · have hX2 : X = genF S P := by omega
      have hne : (((ordF S P X : Nat) : Int) == (S : Int) - 1) = true := by
        rw [hX2, ordF_of HG.out.2.2.1, beq_iff_eq]; omega
      have HX := Lib.hid hX2; clear hX2
      have hwr : IntKind.i64.wrap ((S : Int) - 1) = (S : Int) - 1 := IntWalk.i64_in _ (by omega)
      go_wp2_with fail
      go_region_held3 (fun w' => (w'.cell? ⟨w.heap.size, 0, none⟩ = some (.int .i64 C) ∧ w'.cell? ⟨w.heap.size, 1, none⟩ = some (.int .i64 S) ∧ w'.cell? ⟨w.heap.size, 2, none⟩ = some (.int .i64 P)) ∧ InW w C S P w') (first | exact hold_of (InW.drew HIN.out) | exact hold_of (by assumption)) (first | (go_at_call 54; refine (rorder_any C S P _ _ HV.out (by omega) (by omega)).mono ?_; rintro e w1 ⟨rfl, hb1⟩; have hin1 := InW.step (And.right (by assumption)) hb1))
      all_goals clear hwr
      all_goals go_wp2
      all_goals go_ret
      all_goals exact ⟨ret_int (by rw [HX.out]), InW.below (And.right (by assumption))⟩

/-! inverses -/
set_option maxHeartbeats 1000000 in
theorem inverse_any (C S P : Nat) (a : Int) (w : World) (hv : VF C S P) (ha0 : 0 ≤ a) (ha : a < S) :
    Calls Try.prog 59 #[fldv C S P, .int .i64 a] w fun e w' => e = .returned (.int .i64 (fpowN S P a.toNat (S - 2) : Nat)) ∧ Below w.heap.size w w' := by
  have hS := hv.le
  have hS2 := hv.two_le
  have HV := Lib.hid hv; clear hv
  have hex : (-1 : Int) % ((S : Int) - 1) = ((S - 2 : Nat) : Int) := by
    have h1 := Int.emod_nonneg (-1) (show (S : Int) - 1 ≠ 0 by omega)
    have h2 := Int.emod_lt_of_pos (-1) (show 0 < (S : Int) - 1 by omega)
    by_cases h : S = 2
    · subst h; rfl
    · rw [show (-1 : Int) = ((S : Int) - 2) + ((S : Int) - 1) * (-1) from by omega, Int.add_mul_emod_self_left, Int.emod_eq_of_lt (by omega) (by omega)]; omega
  have HX := Lib.hid hex; clear hex
  go_enter Try.func59, Try.ntmps59
  go_wp2_with fail
  go_region_held3 (fun w' => (w'.cell? ⟨w.heap.size, 0, none⟩ = some (.int .i64 C) ∧ w'.cell? ⟨w.heap.size, 1, none⟩ = some (.int .i64 S) ∧ w'.cell? ⟨w.heap.size, 2, none⟩ = some (.int .i64 P)) ∧ InW w C S P w') (first | exact hold_of (InW.drew (InW.start w C S P _)) | exact hold_of (by assumption)) (first | (go_at_call 52; refine (exponent_any C S P _ _ hS2 hS (by omega) (by omega)).mono ?_; rintro e w1 ⟨rfl, hb1⟩; rw [HX.out]; have hin1 := InW.step (And.right (by assumption)) hb1) | (go_at_call 50; refine (power_any C S P _ _ _ HV.out ha0 ha (by omega) (by omega)).mono ?_; rintro e w2 ⟨rfl, hb2⟩; have hin2 := InW.step (And.right (by assumption)) hb2))
  all_goals go_wp2
  all_goals go_ret
  all_goals exact ⟨ret_int (by simp), InW.below (And.right (by assumption))⟩
end Go.Proofs.Ytefnflmabdpnbaa
