import Derived.Test.YtefnflmabdpnbaaWalkF
import Derived.Test.YtefnflmabdpnbaaMul
namespace Go.Proofs.Ytefnflmabdpnbaa
open Go.RowKit
theorem prod_step (d p A B S R : Nat) (hp : bl p = d + 1) (hA : bl A ≤ d) (hB : bl B ≤ d) (hS : bl S ≤ d) (hid : S ^^^ cmod (cmul A B) p = R) (o : Bool) (ho : decide (B % 2 = 1) = o)
    (A' : Nat) (hA' : A' = cmod (2 * A) p) : bl A' ≤ d ∧ bl (B / 2) ≤ d ∧ bl (if o then S ^^^ A else S) ≤ d ∧ (if o then S ^^^ A else S) ^^^ cmod (cmul A' (B / 2)) p = R := by
  have hp0 : p ≠ 0 := by intro h; subst h; rw [bl_zero] at hp; omega
  refine ⟨?_, ?_, ?_, ?_⟩
  · have := cmod_lt (2 * A) p hp0; rw [hA']; omega
  · exact Nat.le_trans (bl_mono _ _ (Nat.div_le_self B 2)) hB
  · cases o
    · exact hS
    · exact bl_xor_le _ _ _ hS hA
  · rw [← hid, mul_round A B p hp0, hA']
    cases o
    · have : ¬ B % 2 = 1 := by simpa using ho
      simp [this]
    · have : B % 2 = 1 := by simpa using ho
      simp only [this, if_true]
      rw [cmod_small A p (by omega), Nat.xor_assoc]
theorem odd_yes {B : Nat} (hB : B < 2 ^ 62) (h : (bits BinOp.and IntKind.i64 (B : Int) 1 == 1) = true) : decide (B % 2 = 1) = true := by
  rw [i64_and_one B hB] at h
  rw [decide_eq_true_iff]; exact Int.ofNat.inj (eq_of_beq h)
theorem odd_no {B : Nat} (hB : B < 2 ^ 62) (h : (bits BinOp.and IntKind.i64 (B : Int) 1 == 1) = false) : decide (B % 2 = 1) = false := by
  rw [i64_and_one B hB] at h
  rw [decide_eq_false_iff_not]; intro e; rw [e] at h; cases h
theorem dbl_ge {d p A : Nat} {s : Nat} (hs : 2 ^ d = s) (hp : bl p = d + 1) (hA : bl A ≤ d) (h : (s : Int) ≤ (A : Int) * 2) (hd : d ≤ 12) :
    bits BinOp.xor IntKind.i64 ((A : Int) * 2) (p : Int) = ((cmod (2 * A) p : Nat) : Int) := by
  rw [cmod_double A p d hp hA, if_pos (by rw [hs]; omega)]
  have h1 : A < 2 ^ 12 := (bl_le_iff _ _).1 (by omega)
  have h2 : p < 2 ^ 13 := (bl_le_iff _ _).1 (by omega)
  rw [show ((A : Int) * 2) = ((2 * A : Nat) : Int) from by omega]
  exact i64_xor_nat _ _ (by omega) (by omega)
theorem dbl_lt {d p A : Nat} {s : Nat} (hs : 2 ^ d = s) (hp : bl p = d + 1) (hA : bl A ≤ d) (h : (A : Int) * 2 < (s : Int)) :
    (A : Int) * 2 = ((cmod (2 * A) p : Nat) : Int) := by
  rw [cmod_double A p d hp hA, if_neg (by rw [hs]; omega)]; omega

set_option maxHeartbeats 400000 in
theorem product_bin (d s p a b : Nat) (c : Int) (w : World) (hd : d ≤ 12) (hs : 2 ^ d = s) (hp : bl p = d + 1) (ha : bl a ≤ d) (hb : bl b ≤ d) (hp0 : ((p : Int) == 0) = false) :
    Calls Try.prog 49 #[fldv c s p, .int .i64 a, .int .i64 b] w fun e w' => e = .returned (.int .i64 (cmod (cmul a b) p)) ∧ Below w.heap.size w w' := by
  have hs4 : s ≤ 4096 := by rw [← hs]; exact Nat.pow_le_pow_right (n := 2) (by omega) hd
  have HS := Lib.hid hs; clear hs
  have HP := Lib.hid hp; clear hp
  have HD := Lib.hid hd; clear hd
  go_enter Try.func49, Try.ntmps49
  go_wp2_with fail
  go_loop [1, 2, 7] (fun x y z => ∃ A B S : Nat, x = .int .i64 A ∧ y = .int .i64 B ∧ z = .int .i64 S ∧ bl A ≤ d ∧ bl B ≤ d ∧ bl S ≤ d ∧ Hid (S ^^^ cmod (cmul A B) p = cmod (cmul a b) p)) (fun _ y _ => (intOf y).toNat)
  case atStart => exact ⟨a, b, 0, rfl, rfl, rfl, ha, hb, Nat.zero_le _, by show _ = _; simp⟩
  case round =>
    obtain ⟨A, B, S, rfl, rfl, rfl, hA, hB, hS, hid⟩ := hrel
    have hA4 : A < 2 ^ 12 := (bl_le_iff _ _).1 (by have := HD.out; omega)
    have hB4 : B < 2 ^ 12 := (bl_le_iff _ _).1 (by have := HD.out; omega)
    have hS4 : S < 2 ^ 12 := (bl_le_iff _ _).1 (by have := HD.out; omega)
    have hAI : A ≤ 4096 := by omega
    have hBI : B ≤ 4096 := by omega
    have xSA : bits BinOp.xor IntKind.i64 (S : Int) (A : Int) = ((S ^^^ A : Nat) : Int) := i64_xor_nat _ _ (by omega) (by omega)
    have XSA := Lib.hid xSA; clear xSA
    have H62 : Hid (B < 2 ^ 62) := by show B < 2 ^ 62; omega
    clear hA4 hB4 hS4
    go_wp2
    · rename_i h0 h1 h2
      have st := prod_step d p A B S _ HP.out hA hB hS hid.out true (odd_yes H62.out h1) _ rfl
      rw [XSA.out, dbl_ge HS.out HP.out hA h2 HD.out]
      exact ⟨⟨_, B / 2, _, rfl, by go_num, rfl, st.1, st.2.1, st.2.2.1, st.2.2.2⟩, by simp [intOf]; omega⟩
    · rename_i h0 h1 h2
      have st := prod_step d p A B S _ HP.out hA hB hS hid.out true (odd_yes H62.out h1) _ rfl
      rw [XSA.out, dbl_lt HS.out HP.out hA h2]
      exact ⟨⟨_, B / 2, _, rfl, by go_num, rfl, st.1, st.2.1, st.2.2.1, st.2.2.2⟩, by simp [intOf]; omega⟩
    · rename_i h0 h1 h2
      have st := prod_step d p A B S _ HP.out hA hB hS hid.out false (odd_no H62.out h1) _ rfl
      rw [dbl_ge HS.out HP.out hA h2 HD.out]
      exact ⟨⟨_, B / 2, _, rfl, by go_num, rfl, st.1, st.2.1, st.2.2.1, st.2.2.2⟩, by simp [intOf]; omega⟩
    · rename_i h0 h1 h2
      have st := prod_step d p A B S _ HP.out hA hB hS hid.out false (odd_no H62.out h1) _ rfl
      rw [dbl_lt HS.out HP.out hA h2]
      exact ⟨⟨_, B / 2, _, rfl, by go_num, rfl, st.1, st.2.1, st.2.2.1, st.2.2.2⟩, by simp [intOf]; omega⟩
    · rename_i h0 h1
      obtain rfl : B = 0 := by omega
      go_ret
      refine ⟨ret_int ?_, (Below.refl _ _).alloc (Nat.le_refl _) _⟩
      have := hid.out
      have hpp := HP.out
      rw [cmul_zero, cmod_small 0 p (by rw [bl_zero]; omega), Nat.xor_zero] at this
      rw [← this]
set_option maxHeartbeats 400000 in
theorem product_prime (s a b : Nat) (c : Int) (w : World) (hs : 2 < s) (hs2 : s ≤ 4096) (ha : a < s) (hb : b < s) :
    Calls Try.prog 49 #[fldv c s 0, .int .i64 a, .int .i64 b] w fun e w' => e = .returned (.int .i64 (a * b % s : Nat)) ∧ Below w.heap.size w w' := by
  have hab : a * b ≤ 4096 * 4096 := Nat.mul_le_mul (by omega) (by omega)
  have h0 : (0 : Int) ≤ (a : Int) * b := by have : (0 : Int) ≤ ((a * b : Nat) : Int) := by omega
                                            simpa using this
  have h1 : (a : Int) * b ≤ 16777216 := by have : ((a * b : Nat) : Int) ≤ 16777216 := by omega
                                           simpa using this
  go_enter Try.func49, Try.ntmps49
  go_wp2
  go_ret
  exact ⟨ret_int (by simp), (Below.refl _ _).alloc (Nat.le_refl _) _⟩
theorem el_bl {S : Nat} (a d : Nat) (hs : S = 2 ^ d) (ha : a < S) : bl a ≤ d := (bl_le_iff _ _).2 (by rw [← hs]; exact ha)
theorem product_any (C S P : Nat) (a b : Int) (w : World) (hv : VF C S P) (ha0 : 0 ≤ a) (ha : a < S) (hb0 : 0 ≤ b) (hb : b < S) :
    Calls Try.prog 49 #[fldv C S P, .int .i64 a, .int .i64 b] w fun e w' => e = .returned (.int .i64 (fmulN S P a.toNat b.toNat : Nat)) ∧ Below w.heap.size w w' := by
  obtain ⟨A, rfl⟩ := Int.eq_ofNat_of_zero_le ha0
  obtain ⟨B, rfl⟩ := Int.eq_ofNat_of_zero_le hb0
  rw [Int.toNat_natCast, Int.toNat_natCast]
  unfold fmulN
  rcases hv with ⟨hp, hc, h2, h4, -⟩ | ⟨d, h1, h2, h3, h4, -, -⟩
  · subst hp; rw [if_pos rfl]; exact product_prime S A B C w h2 h4 (by omega) (by omega)
  · have hp0 : P ≠ 0 := by intro h; subst h; rw [bl_zero] at h3; omega
    rw [if_neg hp0]
    exact product_bin d S P A B C w h2 h4.symm h3 (el_bl A d h4 (by omega)) (el_bl B d h4 (by omega)) (beq_false_of_ne (by omega))

/-! the reference's Times -/
theorem cmul_round (A X k : Nat) : cmul (A * 2 ^ k) X = (if X % 2 = 1 then A * 2 ^ k else 0) ^^^ cmul (A * 2 ^ (k + 1)) (X / 2) := by
  rw [cmul_eq, ← two_mul_cmul, show 2 * (A * 2 ^ k) = A * 2 ^ (k + 1) from by rw [Nat.pow_succ]; ac_rfl]
theorem times_step (A B Q k R : Nat) (hA : bl A ≤ 12) (hB : bl B ≤ 12) (hQ : bl Q ≤ 24) (hk : 0 < B / 2 ^ k) (hid : Q ^^^ cmul (A * 2 ^ k) (B / 2 ^ k) = R) (o : Bool) (ho : decide (B / 2 ^ k % 2 = 1) = o) :
    k < 12 ∧ bl (if o then Q ^^^ A * 2 ^ k else Q) ≤ 24 ∧ (if o then Q ^^^ A * 2 ^ k else Q) ^^^ cmul (A * 2 ^ (k + 1)) (B / 2 ^ (k + 1)) = R := by
  have hk12 : k < 12 := by
    rcases Nat.lt_or_ge k 12 with h | h
    · exact h
    · exfalso
      have h1 := (bl_le_iff B 12).1 hB
      have h2 : 2 ^ 12 ≤ 2 ^ k := Nat.pow_le_pow_right (by omega) h
      rw [Nat.div_eq_of_lt (by omega)] at hk; omega
  refine ⟨hk12, ?_, ?_⟩
  · cases o
    · exact hQ
    · refine bl_xor_le _ _ _ hQ ?_
      by_cases hA0 : A = 0
      · subst hA0; rw [Nat.zero_mul, bl_zero]; omega
      · rw [bl_shift A k hA0]; omega
  · rw [← hid, cmul_round A (B / 2 ^ k) k, Nat.div_div_eq_div_mul, ← Nat.pow_succ]
    cases o
    · have : ¬ B / 2 ^ k % 2 = 1 := by simpa using ho
      simp [this]
    · have : B / 2 ^ k % 2 = 1 := by simpa using ho
      simp only [this, if_true]
      rw [Nat.xor_assoc]
theorem bitn_yes {B k : Nat} (hB : B < 2 ^ 40) (h : (bits BinOp.and IntKind.i64 ((B : Int) / 2 ^ k) 1 == 1) = true) : decide (B / 2 ^ k % 2 = 1) = true := by
  rw [bit_one B k hB] at h
  rw [decide_eq_true_iff]; exact Int.ofNat.inj (eq_of_beq h)
theorem bitn_no {B k : Nat} (hB : B < 2 ^ 40) (h : (bits BinOp.and IntKind.i64 ((B : Int) / 2 ^ k) 1 == 1) = false) : decide (B / 2 ^ k % 2 = 1) = false := by
  rw [bit_one B k hB] at h
  rw [decide_eq_false_iff_not]; intro e; rw [e] at h; cases h
theorem div_pos_nat {b k : Nat} (h : (0 : Int) < (b : Int) / 2 ^ k) : 0 < b / 2 ^ k := by
  rw [show ((b : Int) / 2 ^ k) = ((b / 2 ^ k : Nat) : Int) from by simp] at h
  generalize b / 2 ^ k = N at *; omega
theorem div_zero_nat {b k : Nat} (h : (b : Int) / 2 ^ k ≤ 0) : b / 2 ^ k = 0 := by
  rw [show ((b : Int) / 2 ^ k) = ((b / 2 ^ k : Nat) : Int) from by simp] at h
  generalize b / 2 ^ k = N at *; omega
theorem times_val (a Q k : Nat) (ha : bl a ≤ 12) (hk : k ≤ 12) (hQ : bl Q ≤ 24) : bits BinOp.xor IntKind.i64 (Q : Int) (wrap64 ((a : Int) * 2 ^ k)) = ((Q ^^^ a * 2 ^ k : Nat) : Int) := by
  have h1 : bl (a * 2 ^ k) ≤ 24 := by
    by_cases hA0 : a = 0
    · subst hA0; rw [Nat.zero_mul, bl_zero]; omega
    · rw [bl_shift a k hA0]; omega
  have h2 := (bl_le_iff _ _).1 h1
  have h3 := (bl_le_iff _ _).1 hQ
  rw [show ((a : Int) * 2 ^ k) = ((a * 2 ^ k : Nat) : Int) from by simp]
  generalize a * 2 ^ k = N at *
  rw [IntWalk.wrap64_in _ (by omega), i64_xor_nat _ _ (by omega) (by omega)]
set_option maxHeartbeats 400000 in
theorem times_bin (s p a b : Nat) (w : World) (hp : bl p ≤ 13) (hp1 : 0 < p) (ha : bl a ≤ 12) (hb : bl b ≤ 12) :
    Calls Try.prog 56 #[fldv 2 s p, .int .i64 a, .int .i64 b] w fun e w' => e = .returned (.int .i64 (cmod (cmul a b) p)) ∧ Below w.heap.size w w' := by
  have ha4 : a ≤ 4096 := by have := (bl_le_iff _ _).1 ha; omega
  have hb4 : b ≤ 4096 := by have := (bl_le_iff _ _).1 hb; omega
  go_enter Try.func56, Try.ntmps56
  go_wp2_with fail
  go_loop [7, 8] (fun x y => ∃ Q k : Nat, x = .int .i64 Q ∧ y = .int .i64 k ∧ k ≤ 12 ∧ bl Q ≤ 24 ∧ Hid (Q ^^^ cmul (a * 2 ^ k) (b / 2 ^ k) = cmul a b)) (fun _ y => 20 - (intOf y).toNat)
  case atStart => exact ⟨0, 0, rfl, rfl, by omega, Nat.zero_le _, by show _ = _; simp⟩
  case round =>
    obtain ⟨Q, k, rfl, rfl, hk, hQ, hid⟩ := hrel
    have HB := Lib.hid hb; clear hb
    have HA := Lib.hid ha; clear ha
    go_wp2_with fail
    · rename_i h0 h1
      have hB40 : b < 2 ^ 40 := by omega
      have st := times_step a b Q k _ HA.out HB.out hQ (div_pos_nat h0) hid.out true (bitn_yes hB40 h1)
      rw [times_val a Q k HA.out hk hQ]
      exact ⟨⟨_, k + 1, rfl, by go_num, by omega, st.2.1, st.2.2⟩, by simp [intOf]; omega⟩
    · rename_i h0 h1
      have hB40 : b < 2 ^ 40 := by omega
      have st := times_step a b Q k _ HA.out HB.out hQ (div_pos_nat h0) hid.out false (bitn_no hB40 h1)
      exact ⟨⟨_, k + 1, rfl, by go_num, by omega, st.2.1, st.2.2⟩, by simp [intOf]; omega⟩
    · have h0 : (b : Int) / 2 ^ k ≤ 0 := by assumption
      have hz := div_zero_nat h0
      have hf := hid.out
      rw [hz, cmul_zero, Nat.xor_zero] at hf
      have HF := Lib.hid hf; clear hf
      clear hz
      refine (rrest_any _ _ _ (by omega) (by rw [Int.toNat_natCast]; omega) (by omega) (by rw [Int.toNat_natCast]; omega)).mono ?_
      rintro e w' ⟨rfl, rfl⟩
      go_wp2
      go_ret
      exact ⟨ret_int (by rw [HF.out]), (Below.refl _ _).alloc (Nat.le_refl _) _⟩
set_option maxHeartbeats 400000 in
theorem times_prime (s a b : Nat) (c : Int) (w : World) (hc : (c == 2) = false) (hs : 2 < s) (hs2 : s ≤ 4096) (ha : a < s) (hb : b < s) :
    Calls Try.prog 56 #[fldv c s 0, .int .i64 a, .int .i64 b] w fun e w' => e = .returned (.int .i64 (a * b % s : Nat)) ∧ Below w.heap.size w w' := by
  have hab : a * b ≤ 4096 * 4096 := Nat.mul_le_mul (by omega) (by omega)
  have h0 : (0 : Int) ≤ (a : Int) * b := by have : (0 : Int) ≤ ((a * b : Nat) : Int) := by omega
                                            simpa using this
  have h1 : (a : Int) * b ≤ 16777216 := by have : ((a * b : Nat) : Int) ≤ 16777216 := by omega
                                           simpa using this
  go_enter Try.func56, Try.ntmps56
  go_wp2
  go_ret
  exact ⟨ret_int (by simp), (Below.refl _ _).alloc (Nat.le_refl _) _⟩
theorem times_any (C S P : Nat) (a b : Int) (w : World) (hv : VF C S P) (ha0 : 0 ≤ a) (ha : a < S) (hb0 : 0 ≤ b) (hb : b < S) :
    Calls Try.prog 56 #[fldv C S P, .int .i64 a, .int .i64 b] w fun e w' => e = .returned (.int .i64 (fmulN S P a.toNat b.toNat : Nat)) ∧ Below w.heap.size w w' := by
  obtain ⟨A, rfl⟩ := Int.eq_ofNat_of_zero_le ha0
  obtain ⟨B, rfl⟩ := Int.eq_ofNat_of_zero_le hb0
  rw [Int.toNat_natCast, Int.toNat_natCast]
  unfold fmulN
  rcases hv with ⟨hp, hc, h2, h4, -⟩ | ⟨d, h1, h2, h3, h4, hc, -⟩
  · subst hp; rw [if_pos rfl]; exact times_prime S A B C w (beq_false_of_ne (by omega)) h2 h4 (by omega) (by omega)
  · have hp0 : P ≠ 0 := by intro h; subst h; rw [bl_zero] at h3; omega
    rw [if_neg hp0]; subst hc
    exact times_bin S P A B w (by omega) (by omega) (Nat.le_trans (el_bl A d h4 (by omega)) h2) (Nat.le_trans (el_bl B d h4 (by omega)) h2)
end Go.Proofs.Ytefnflmabdpnbaa
