import Derived.Test.YtefnflmabdpnbaaWalkG
import Derived.Test.YtefnflmabdpnbaaLaws
namespace Go.Proofs.Ytefnflmabdpnbaa
set_option linter.unusedVariables false
open Go.RowKit
/-- the box of a field stands at block w.heap.size, and nothing below has turned -/
def InW (w : World) (c s p : Int) (wr : World) : Prop :=
  Below w.heap.size w wr ∧ w.heap.size < wr.heap.size ∧ wr.cell? ⟨w.heap.size, 0, none⟩ = some (.int .i64 c) ∧ wr.cell? ⟨w.heap.size, 1, none⟩ = some (.int .i64 s) ∧ wr.cell? ⟨w.heap.size, 2, none⟩ = some (.int .i64 p)
theorem InW.start (w : World) (c s p : Int) (t : Nat) : InW w c s p (w.alloc (.cells #[.int .i64 c, .int .i64 s, .int .i64 p] t)) := by
  refine ⟨(Below.refl _ _).alloc (Nat.le_refl _) _, by simp, ?_, ?_, ?_⟩ <;> go_simp
theorem InW.step {w wr w1 : World} {c s p : Int} (h : InW w c s p wr) (hb : Below wr.heap.size wr w1) : InW w c s p w1 := by
  obtain ⟨h0, h1, h2, h3, h4⟩ := h
  exact ⟨h0.trans (hb.mono (by omega)), Nat.lt_of_lt_of_le h1 hb.size, (hb.cell h1).trans h2, (hb.cell h1).trans h3, (hb.cell h1).trans h4⟩
theorem InW.drew {w wr : World} {c s p : Int} (h : InW w c s p wr) : InW w c s p wr.drew := ⟨h.1.drew, h.2.1, h.2.2.1, h.2.2.2.1, h.2.2.2.2⟩
theorem InW.below {w wr : World} {c s p : Int} (h : InW w c s p wr) : Below w.heap.size w wr := h.1

set_option maxHeartbeats 400000 in
theorem power_nat (C S P a n : Nat) (w : World) (hv : VF C S P) (ha : a < S) (hn : n ≤ 1000000) :
    Calls Try.prog 50 #[fldv C S P, .int .i64 a, .int .i64 n] w fun e w' => e = .returned (.int .i64 (fpowN S P a n : Nat)) ∧ Below w.heap.size w w' := by
  have hS := hv.le
  have hS2 := hv.two_le
  have HV := Lib.hid hv; clear hv
  go_enter Try.func50, Try.ntmps50
  go_wp2_with fail
  go_loopw [1, 2, 7] (fun x y z wr => ∃ A N R : Nat, x = .int .i64 A ∧ y = .int .i64 N ∧ z = .int .i64 R ∧ A < S ∧ N ≤ 1000000 ∧ R < S ∧ Hid (fmulN S P R (fpowN S P A N) = fpowN S P a n) ∧ InW w C S P wr) (fun _ y _ _ => (intOf y).toNat)
  case atStart => exact ⟨a, n, 1, rfl, rfl, rfl, ha, hn, by omega, one_mulN HV.out _ (fpowN_lt HV.out _ _), InW.start w C S P _⟩
  case round =>
    obtain ⟨A, N, R, rfl, rfl, rfl, hA, hN, hR, hid, hin⟩ := hrel
    obtain ⟨hbl, hsz, hc0, hc1, hc2⟩ := id hin
    have HIN := Lib.hid hin; clear hin
    have HBL := Lib.hid hbl; clear hbl
    by_cases hz : 0 < N
    · by_cases ho : N % 2 = 1
      · have hod : (bits BinOp.and IntKind.i64 (N : Int) 1 == 1) = true := by
          rw [i64_and_one N (by omega), ho]; rfl
        have HO := Lib.hid ho; clear ho
        go_wp2_with fail
        refine (product_any C S P _ _ _ HV.out (by omega) (by omega) (by omega) (by omega)).mono ?_
        rintro e w1 ⟨rfl, hb1⟩
        have hin1 := HIN.out.step hb1
        obtain ⟨-, hsz1, hd0, hd1, hd2⟩ := id hin1
        have HIN1 := Lib.hid hin1; clear hin1 hb1
        go_wp2_with fail
        refine (product_any C S P _ _ _ HV.out (by omega) (by omega) (by omega) (by omega)).mono ?_
        rintro e w2 ⟨rfl, hb2⟩
        have hin2 := Lib.hid (HIN1.out.step hb2)
        clear hb2
        have HE := Lib.hid ((pow_odd HV.out R A N hR hA HO.out).trans hid.out)
        clear hid
        go_wp2_with fail
        exact ⟨⟨fmulN S P A A, N / 2, fmulN S P R A, rfl, by go_num, rfl, fmul_lt HV.out _ _, by omega, fmul_lt HV.out _ _, HE.out, hin2.out⟩, by simp [intOf]; omega⟩
      · have hod : (bits BinOp.and IntKind.i64 (N : Int) 1 == 1) = false := by
          rw [i64_and_one N (by omega), show N % 2 = 0 from by omega]; rfl
        have HO : Hid (N % 2 = 0) := by show N % 2 = 0; omega
        clear ho
        go_wp2_with fail
        refine (product_any C S P _ _ _ HV.out (by omega) (by omega) (by omega) (by omega)).mono ?_
        rintro e w1 ⟨rfl, hb1⟩
        have hin1 := Lib.hid (HIN.out.step hb1)
        clear hb1
        have HE := Lib.hid ((pow_even HV.out R A N hR hA HO.out).trans hid.out)
        clear hid
        go_wp2_with fail
        exact ⟨⟨fmulN S P A A, N / 2, R, rfl, by go_num, rfl, fmul_lt HV.out _ _, by omega, hR, HE.out, hin1.out⟩, by simp [intOf]; omega⟩
    · obtain rfl : N = 0 := by omega
      have he := hid.out
      rw [show fpowN S P A 0 = 1 from rfl, mul_oneN HV.out R hR] at he
      have HE := Lib.hid he; clear he hid
      go_wp2_with fail
      go_ret
      exact ⟨ret_int (by rw [HE.out]), HBL.out⟩
theorem power_any (C S P : Nat) (a n : Int) (w : World) (hv : VF C S P) (ha0 : 0 ≤ a) (ha : a < S) (hn0 : 0 ≤ n) (hn : n ≤ 1000000) :
    Calls Try.prog 50 #[fldv C S P, .int .i64 a, .int .i64 n] w fun e w' => e = .returned (.int .i64 (fpowN S P a.toNat n.toNat : Nat)) ∧ Below w.heap.size w w' := by
  obtain ⟨A, rfl⟩ := Int.eq_ofNat_of_zero_le ha0
  obtain ⟨N, rfl⟩ := Int.eq_ofNat_of_zero_le hn0
  exact power_nat C S P A N w hv (by omega) (by omega)

set_option maxHeartbeats 400000 in
theorem rpower_nat (C S P a n : Nat) (w : World) (hv : VF C S P) (ha : a < S) (hn : n ≤ 1000000) :
    Calls Try.prog 65 #[fldv C S P, .int .i64 a, .int .i64 n] w fun e w' => e = .returned (.int .i64 (fpowN S P a n : Nat)) ∧ Below w.heap.size w w' := by
  have hS := hv.le
  have hS2 := hv.two_le
  have HV := Lib.hid hv; clear hv
  go_enter Try.func65, Try.ntmps65
  go_wp2_with fail
  go_loopw [1, 2, 7] (fun x y z wr => ∃ A N R : Nat, x = .int .i64 A ∧ y = .int .i64 N ∧ z = .int .i64 R ∧ A < S ∧ N ≤ 1000000 ∧ R < S ∧ Hid (fmulN S P R (fpowN S P A N) = fpowN S P a n) ∧ InW w C S P wr) (fun _ y _ _ => (intOf y).toNat)
  case atStart => exact ⟨a, n, 1, rfl, rfl, rfl, ha, hn, by omega, one_mulN HV.out _ (fpowN_lt HV.out _ _), InW.start w C S P _⟩
  case round =>
    obtain ⟨A, N, R, rfl, rfl, rfl, hA, hN, hR, hid, hin⟩ := hrel
    obtain ⟨hbl, hsz, hc0, hc1, hc2⟩ := id hin
    have HIN := Lib.hid hin; clear hin
    have HBL := Lib.hid hbl; clear hbl
    by_cases hz : 0 < N
    · by_cases ho : N % 2 = 1
      · have hod : ((N : Int) % 2 == 1) = true := by
          rw [beq_iff_eq]; omega
        have HO := Lib.hid ho; clear ho
        go_wp2_with fail
        refine (times_any C S P _ _ _ HV.out (by omega) (by omega) (by omega) (by omega)).mono ?_
        rintro e w1 ⟨rfl, hb1⟩
        have hin1 := HIN.out.step hb1
        obtain ⟨-, hsz1, hd0, hd1, hd2⟩ := id hin1
        have HIN1 := Lib.hid hin1; clear hin1 hb1
        go_wp2_with fail
        refine (times_any C S P _ _ _ HV.out (by omega) (by omega) (by omega) (by omega)).mono ?_
        rintro e w2 ⟨rfl, hb2⟩
        have hin2 := Lib.hid (HIN1.out.step hb2)
        clear hb2
        have HE := Lib.hid ((pow_odd HV.out R A N hR hA HO.out).trans hid.out)
        clear hid
        go_wp2_with fail
        exact ⟨⟨fmulN S P A A, N / 2, fmulN S P R A, rfl, by go_num, rfl, fmul_lt HV.out _ _, by omega, fmul_lt HV.out _ _, HE.out, hin2.out⟩, by simp [intOf]; omega⟩
      · have hod : ((N : Int) % 2 == 1) = false := by
          rw [beq_eq_false_iff_ne]; omega
        have HO : Hid (N % 2 = 0) := by show N % 2 = 0; omega
        clear ho
        go_wp2_with fail
        refine (times_any C S P _ _ _ HV.out (by omega) (by omega) (by omega) (by omega)).mono ?_
        rintro e w1 ⟨rfl, hb1⟩
        have hin1 := Lib.hid (HIN.out.step hb1)
        clear hb1
        have HE := Lib.hid ((pow_even HV.out R A N hR hA HO.out).trans hid.out)
        clear hid
        go_wp2_with fail
        exact ⟨⟨fmulN S P A A, N / 2, R, rfl, by go_num, rfl, fmul_lt HV.out _ _, by omega, hR, HE.out, hin1.out⟩, by simp [intOf]; omega⟩
    · obtain rfl : N = 0 := by omega
      have he := hid.out
      rw [show fpowN S P A 0 = 1 from rfl, mul_oneN HV.out R hR] at he
      have HE := Lib.hid he; clear he hid
      go_wp2_with fail
      go_ret
      exact ⟨ret_int (by rw [HE.out]), HBL.out⟩
theorem rpower_any (C S P : Nat) (a n : Int) (w : World) (hv : VF C S P) (ha0 : 0 ≤ a) (ha : a < S) (hn0 : 0 ≤ n) (hn : n ≤ 1000000) :
    Calls Try.prog 65 #[fldv C S P, .int .i64 a, .int .i64 n] w fun e w' => e = .returned (.int .i64 (fpowN S P a.toNat n.toNat : Nat)) ∧ Below w.heap.size w w' := by
  obtain ⟨A, rfl⟩ := Int.eq_ofNat_of_zero_le ha0
  obtain ⟨N, rfl⟩ := Int.eq_ofNat_of_zero_le hn0
  exact rpower_nat C S P A N w hv (by omega) (by omega)

/-- Plus and Minus -/
theorem VF.odd {c s p : Nat} (h : VF c s p) (hp : p = 0) : c ≠ 2 ∧ 2 < s := by
  rcases h with ⟨_, h1, h2, -⟩ | ⟨d, _, _, h3, _⟩
  · omega
  · subst hp; rw [bl_zero] at h3; omega
theorem VF.even {c s p : Nat} (h : VF c s p) (hp : p ≠ 0) : c = 2 ∧ 2 ≤ p := by
  rcases h with ⟨h1, _⟩ | ⟨d, h1, _, h3, _, h4, _⟩
  · omega
  · refine ⟨h4, ?_⟩
    rcases Nat.lt_or_ge p 2 with h | h
    · have : p = 1 := by omega
      subst this; have e : bl 1 = 1 := by decide
      omega
    · exact h
set_option maxHeartbeats 400000 in
theorem rplus_any (C S P : Nat) (a b : Int) (w : World) (hv : VF C S P) (ha0 : 0 ≤ a) (ha : a < S) (hb0 : 0 ≤ b) (hb : b < S) :
    Calls Try.prog 57 #[fldv C S P, .int .i64 a, .int .i64 b] w fun e w' => e = .returned (.int .i64 (faddN S P a.toNat b.toNat : Nat)) ∧ Below w.heap.size w w' := by
  have hS := hv.le
  have hS2 := hv.two_le
  by_cases hp : P = 0
  · have hc : (((C : Nat) : Int) == 2) = false := by rw [beq_eq_false_iff_ne]; have := (hv.odd hp).1; omega
    have he : Hid ((faddN S P a.toNat b.toNat : Nat) = (a + b) % (S : Int)) := by
      show _ = _
      unfold faddN; rw [if_pos hp, Int.natCast_emod, show ((a.toNat + b.toNat : Nat) : Int) = a + b from by omega]
    clear hv hp
    go_enter Try.func57, Try.ntmps57
    go_wp2
    go_ret
    exact ⟨ret_int (by rw [he.out]), (Below.refl _ _).alloc (Nat.le_refl _) _⟩
  · have hc : (((C : Nat) : Int) == 2) = true := by rw [beq_iff_eq]; have := (hv.even hp).1; omega
    have he : Hid ((faddN S P a.toNat b.toNat : Nat) = bits BinOp.xor IntKind.i64 a b) := by
      show _ = _
      unfold faddN; rw [if_neg hp, i64_xor a b ha0 (by omega) hb0 (by omega)]
    clear hv hp
    go_enter Try.func57, Try.ntmps57
    go_wp2
    go_ret
    exact ⟨ret_int (by rw [he.out]), (Below.refl _ _).alloc (Nat.le_refl _) _⟩
set_option maxHeartbeats 400000 in
theorem rminus_any (C S P : Nat) (a b : Int) (w : World) (hv : VF C S P) (ha0 : 0 ≤ a) (ha : a < S) (hb0 : 0 ≤ b) (hb : b < S) :
    Calls Try.prog 58 #[fldv C S P, .int .i64 a, .int .i64 b] w fun e w' => e = .returned (.int .i64 (fsubN S P a.toNat b.toNat : Nat)) ∧ Below w.heap.size w w' := by
  have hS := hv.le
  have hS2 := hv.two_le
  by_cases hp : P = 0
  · have hc : (((C : Nat) : Int) == 2) = false := by rw [beq_eq_false_iff_ne]; have := (hv.odd hp).1; omega
    have he : Hid ((fsubN S P a.toNat b.toNat : Nat) = (a + (S : Int) - b) % (S : Int)) := by
      show _ = _
      unfold fsubN; rw [if_pos hp, Int.natCast_emod, show ((a.toNat + S - b.toNat : Nat) : Int) = a + S - b from by omega]
    clear hv hp
    go_enter Try.func58, Try.ntmps58
    go_wp2
    go_ret
    exact ⟨ret_int (by rw [he.out]), (Below.refl _ _).alloc (Nat.le_refl _) _⟩
  · have hc : (((C : Nat) : Int) == 2) = true := by rw [beq_iff_eq]; have := (hv.even hp).1; omega
    have he : Hid ((fsubN S P a.toNat b.toNat : Nat) = bits BinOp.xor IntKind.i64 a b) := by
      show _ = _
      unfold fsubN; rw [if_neg hp, i64_xor a b ha0 (by omega) hb0 (by omega)]
    clear hv hp
    go_enter Try.func58, Try.ntmps58
    go_wp2
    go_ret
    exact ⟨ret_int (by rw [he.out]), (Below.refl _ _).alloc (Nat.le_refl _) _⟩
end Go.Proofs.Ytefnflmabdpnbaa
