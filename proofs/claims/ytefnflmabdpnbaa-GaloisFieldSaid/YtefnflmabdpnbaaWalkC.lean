import Derived.Test.YtefnflmabdpnbaaWalkB
namespace Go.Proofs.Ytefnflmabdpnbaa
open Go.RowKit
/-! the reference's functions on polynomials over GF(2) and primes -/

set_option maxHeartbeats 400000 in
theorem rdegree_any (p : Int) (w : World) (h1 : p ≤ 9223372036854775807) :
    Calls Try.prog 46 #[.int .i64 p] w fun e w' => e = .returned (.int .i64 ((bl p.toNat : Int) - 1)) ∧ w = w' := by
  by_cases h0 : 0 < p
  · have hb := bl_le63 p (by omega) h1
    go_enter Try.func46, Try.ntmps46
    go_wp2_with fail
    go_loop [0, 3] (fun t d => ∃ P D : Nat, t = .int .i64 P ∧ D ≤ 63 ∧ d = .int .i64 ((D : Int) - 1) ∧ P ≤ 9223372036854775807 ∧ Hid (bl P + D = bl p.toNat)) (fun t _ => (intOf t).toNat)
    case atStart => exact ⟨p.toNat, 0, by rw [Int.toNat_of_nonneg (by omega)], by omega, rfl, by omega, rfl⟩
    case round =>
      obtain ⟨P, D, rfl, hD, rfl, hP, hid⟩ := hrel
      by_cases hz : 0 < P
      · have hpd : bl (P / 2) + 1 = bl P := by
          by_cases h1 : P = 1
          · subst h1; rfl
          · have h2 : P / 2 ≠ 0 := by omega
            obtain ⟨n, hn⟩ : ∃ n, bl (P/2) = n + 1 := ⟨bl (P/2) - 1, by have := bl_pos _ h2; omega⟩
            have g1 := (lt_bl_iff (P/2) n).1 (by omega)
            have g2 := (bl_le_iff (P/2) (n+1)).1 (by omega)
            rw [hn]
            rw [bl_eq P (n + 1) (by rw [Nat.pow_succ]; omega) (by rw [Nat.pow_succ]; omega)]
        have HP := Lib.hid hpd; clear hpd
        have hb63 : D + 1 ≤ 63 := by have := hid.out; have := HP.out; omega
        go_wp2
        refine ⟨⟨P / 2, D + 1, by go_num, by omega, by go_num, by omega, ?_⟩, by simp [intOf]; omega⟩
        show bl (P / 2) + (D + 1) = _
        have := hid.out; have := HP.out; omega
      · obtain rfl : P = 0 := by omega
        go_wp2
        go_ret
        exact ⟨ret_int (by have := hid.out; rw [bl_zero] at this; omega), rfl⟩
  · go_enter Try.func46, Try.ntmps46
    go_wp2_with fail
    go_loop [0, 3] (fun t d => t = .int .i64 p ∧ d = .int .i64 (-1)) (fun t _ => (intOf t).toNat)
    case atStart => exact ⟨rfl, rfl⟩
    case round =>
      obtain ⟨rfl, rfl⟩ := hrel
      go_wp2
      go_ret
      exact ⟨ret_int (by rw [Int.toNat_of_nonpos (by omega)]; rfl), rfl⟩

/-- below bit k + 1 the bit k decides -/
theorem bl_le_of_bit (P k : Nat) (h : bl P ≤ k + 1) (hb : P.testBit k = false) : bl P ≤ k := by
  rcases Nat.lt_or_ge (bl P) (k + 1) with h1 | h1
  · omega
  · have := testBit_bl P k (by omega); rw [this] at hb; cases hb
theorem bl_of_bit (P k : Nat) (h : bl P ≤ k + 1) (hb : P.testBit k = true) : bl P = k + 1 := by
  rcases Nat.lt_or_ge (bl P) (k + 1) with h1 | h1
  · have := (bl_le_iff P k).1 (by omega)
    rw [Nat.testBit_lt_two_pow this] at hb; cases hb
  · omega
theorem testBit_div (P k : Nat) : P.testBit k = decide (P / 2 ^ k % 2 = 1) := Nat.testBit_eq_decide_div_mod_eq

theorem bit_one (P j : Nat) (h : P < 2 ^ 40) : bits BinOp.and IntKind.i64 ((P : Int) / 2 ^ j) 1 = ((P / 2 ^ j % 2 : Nat) : Int) := by
  rw [show ((P : Int) / 2 ^ j) = ((P / 2 ^ j : Nat) : Int) from by simp]
  exact i64_and_one _ (by have := Nat.div_le_self P (2 ^ j); omega)
theorem bit_yes {P j : Nat} (h : (((P / 2 ^ j % 2 : Nat) : Int) == 1) = true) : P.testBit j = true := by
  rw [testBit_div, decide_eq_true_iff]; exact Int.ofNat.inj (eq_of_beq h)
theorem bit_no {P j : Nat} (h : (((P / 2 ^ j % 2 : Nat) : Int) == 1) = false) : P.testBit j = false := by
  rw [testBit_div, decide_eq_false_iff_not]; intro e; rw [e] at h; cases h
set_option maxHeartbeats 400000 in
theorem rrest_nat (p q : Nat) (w : World) (hp : bl p ≤ 40) (hq0 : 0 < q) (hq : bl q ≤ 40) :
    Calls Try.prog 62 #[.int .i64 p, .int .i64 q] w fun e w' => e = .returned (.int .i64 (cmod p q)) ∧ w = w' := by
  have hqp : 0 < bl q := bl_pos q (by omega)
  have hpI : (p : Int) ≤ 9223372036854775807 := by have := bl40 p hp; omega
  have hqI : (q : Int) ≤ 9223372036854775807 := by have := bl40 q hq; omega
  go_enter Try.func62, Try.ntmps62
  go_wp2_with (go_at_call 46; refine (rdegree_any _ _ (by omega)).mono ?_; rintro e w' ⟨rfl, rfl⟩)
  go_loop [0, 6] (fun t k => ∃ P K : Nat, t = .int .i64 P ∧ bl P ≤ K ∧ K ≤ 40 ∧ k = .int .i64 ((K : Int) - 1) ∧ Hid (cmod P q = cmod p q)) (fun _ k => (intOf k + 1).toNat)
  case atStart =>
    exact ⟨p, bl p, rfl, Nat.le_refl _, hp, rfl, rfl⟩
  case round =>
    obtain ⟨P, K, rfl, hP, hK, rfl, hid⟩ := hrel
    go_wp2
    · rename_i h1 h2
      rw [bit_one P _ (bl40 P (by omega))] at h2
      have h3 : P.testBit (K - 1) = true := bit_yes h2
      have h4 := bl_of_bit P (K - 1) (by omega) h3
      obtain rfl : K = bl P := by omega
      rw [step_val P q (by omega) hq0 h1]
      have h5 := cstep_lt P q (by omega) h1
      refine ⟨⟨cstep P q, bl P - 1, rfl, by omega, by omega, by go_num, ?_⟩, by simp [intOf]; omega⟩
      show cmod _ _ = _
      rw [cmod_cstep P q hq0]; exact hid.out
    · rename_i h1 h2
      rw [bit_one P _ (bl40 P (by omega))] at h2
      have h3 : P.testBit (K - 1) = false := bit_no h2
      have h4 := bl_le_of_bit P (K - 1) (by omega) h3
      exact ⟨⟨P, K - 1, rfl, by omega, by omega, by go_num, hid⟩, by simp [intOf]; omega⟩
    · rename_i h1 _
      go_ret
      exact ⟨ret_int (by rw [← hid.out, cmod_small P q (by omega)]), rfl⟩
theorem rrest_any (p q : Int) (w : World) (hp0 : 0 ≤ p) (hp : bl p.toNat ≤ 40) (hq0 : 0 < q) (hq : bl q.toNat ≤ 40) :
    Calls Try.prog 62 #[.int .i64 p, .int .i64 q] w fun e w' => e = .returned (.int .i64 (cmod p.toNat q.toNat)) ∧ w = w' := by
  obtain ⟨P, rfl⟩ := Int.eq_ofNat_of_zero_le hp0
  obtain ⟨Q, rfl⟩ := Int.eq_ofNat_of_zero_le (Int.le_of_lt hq0)
  exact rrest_nat P Q w hp (by omega) hq

set_option maxHeartbeats 400000 in
theorem rprime_nat (n : Nat) (w : World) (hn : 2 ≤ n) (hn2 : n ≤ 4096) :
    Calls Try.prog 43 #[.int .i64 n] w fun e w' => e = .returned (.bool (primeB n)) ∧ w = w' := by
  go_enter Try.func43, Try.ntmps43
  go_wp2_with fail
  go_loop [3] (fun t => ∃ d : Nat, 2 ≤ d ∧ d ≤ 65 ∧ t = .int .i64 d ∧ Hid (∀ r, 2 ≤ r → r < d → n % r ≠ 0)) (fun t => 100 - (intOf t).toNat)
  case atStart => exact ⟨2, by omega, by decide, rfl, fun r h1 h2 => by omega⟩
  case round =>
    obtain ⟨d, hd2, hd, rfl, hid⟩ := hrel
    have hdd : d * d ≤ 65 * 65 := Nat.mul_le_mul hd hd
    have hdd0 : (0 : Int) ≤ (d : Int) * d := by have : (0 : Int) ≤ ((d * d : Nat) : Int) := by omega
                                                simpa using this
    have hdd1 : (d : Int) * d ≤ 4225 := by have : ((d * d : Nat) : Int) ≤ 4225 := by omega
                                           simpa using this
    by_cases hlt : d * d ≤ n
    · have hlt2 : (d : Int) * d ≤ n := by have : ((d * d : Nat) : Int) ≤ n := by omega
                                          simpa using this
      have hd3 : d ≤ 64 := by
        rcases Nat.lt_or_ge d 65 with h | h
        · omega
        · have := Nat.mul_le_mul h h; omega
      clear hlt
      by_cases hz : n % d = 0
      · have hz2 : (((n : Int) % (d : Int)) == 0) = true := by
          have : ((n % d : Nat) : Int) = 0 := by omega
          simpa using this
        have hI : primeB n = false := by
          rw [Bool.eq_false_iff]; intro h
          have h4 : d * d ≤ n := by have : ((d * d : Nat) : Int) ≤ n := by simpa using hlt2
                                    omega
          exact ((primeB_iff n).1 h).2 d hd2 h4 hz
        have HI := Lib.hid hI; clear hI
        clear hz
        go_wp2
        go_ret
        exact ⟨ret_bool HI.out.symm, rfl⟩
      · have hz2 : (((n : Int) % (d : Int)) == 0) = false := by
          have : ((n % d : Nat) : Int) ≠ 0 := by omega
          simpa using this
        have HZ := Lib.hid hz; clear hz
        go_wp2
        refine ⟨⟨d + 1, by omega, by omega, by go_num, ?_⟩, by simp [intOf]; omega⟩
        intro r h1 h2
        by_cases h3 : r = d
        · subst h3; exact HZ.out
        · exact hid.out r h1 (by omega)
    · have hlt2 : ¬ (d : Int) * d ≤ n := by
        have : ¬ ((d * d : Nat) : Int) ≤ n := by omega
        simpa using this
      have hI : primeB n = true := by
        rw [primeB_iff]; refine ⟨hn, fun r h1 h2 => hid.out r h1 ?_⟩
        rcases Nat.lt_or_ge r d with h | h
        · exact h
        · have := Nat.mul_le_mul h h; omega
      have HI := Lib.hid hI; clear hI
      clear hlt
      go_wp2
      go_ret
      exact ⟨ret_bool (by rw [HI.out]; simp; omega), rfl⟩
theorem rprime_any (n : Int) (w : World) (hn : 2 ≤ n) (hn2 : n ≤ 4096) :
    Calls Try.prog 43 #[.int .i64 n] w fun e w' => e = .returned (.bool (primeB n.toNat)) ∧ w = w' := by
  obtain ⟨P, rfl⟩ := Int.eq_ofNat_of_zero_le (by omega : 0 ≤ n)
  exact rprime_nat P w (by omega) (by omega)

/-- the reference's irreducible: the degree is d, and no factor -/
def rirrB (p d : Int) : Bool := decide (0 ≤ p) && decide ((bl p.toNat : Int) = d + 1) && irrB p.toNat
set_option maxHeartbeats 400000 in
theorem rirr_no1 (p d : Int) (w : World) (h : p < 0) :
    Calls Try.prog 41 #[.int .i64 p, .int .i64 d] w fun e w' => e = .returned (.bool (rirrB p d)) ∧ w = w' := by
  have hI : rirrB p d = false := by unfold rirrB; simp; omega
  have HI := Lib.hid hI; clear hI
  go_enter Try.func41, Try.ntmps41
  go_wp2
  go_ret
  exact ⟨ret_bool HI.out.symm, rfl⟩
set_option maxHeartbeats 400000 in
theorem rirr_no2 (p d : Int) (w : World) (h : 0 ≤ p) (h1 : p ≤ 9223372036854775807) (hd : (bl p.toNat : Int) - 1 ≠ d) :
    Calls Try.prog 41 #[.int .i64 p, .int .i64 d] w fun e w' => e = .returned (.bool (rirrB p d)) ∧ w = w' := by
  have hI : rirrB p d = false := by unfold rirrB; simp; omega
  have HI := Lib.hid hI; clear hI
  have hdb : (((bl p.toNat : Int) - 1) != d) = true := by rw [bne_iff_ne]; exact hd
  clear hd
  go_enter Try.func41, Try.ntmps41
  go_wp2_with (go_at_call 46; refine (rdegree_any _ _ (by omega)).mono ?_; rintro e w' ⟨rfl, rfl⟩)
  go_ret
  exact ⟨ret_bool HI.out.symm, rfl⟩
set_option maxHeartbeats 400000 in
theorem rirr_yes (p : Nat) (w : World) (hp0 : 0 < p) (hp : bl p ≤ 13) :
    Calls Try.prog 41 #[.int .i64 p, .int .i64 ((bl p : Int) - 1)] w fun e w' => e = .returned (.bool (irrB p)) ∧ w = w' := by
  have hpp := bl_pos p (by omega)
  have hpI : (p : Int) ≤ 9223372036854775807 := by have := bl40 p (by omega); omega
  go_enter Try.func41, Try.ntmps41
  go_wp2_with (go_at_call 46; refine (rdegree_any _ _ (by omega)).mono ?_; rintro e w' ⟨rfl, rfl⟩)
  go_loop [5] (fun t => ∃ q : Nat, 2 ≤ q ∧ bl q ≤ 8 ∧ t = .int .i64 q ∧ Hid (∀ r, 2 ≤ r → r < q → cmod p r ≠ 0)) (fun t => 300 - (intOf t).toNat)
  case atStart => exact ⟨2, by omega, by decide, rfl, fun r h1 h2 => by omega⟩
  case round =>
    obtain ⟨q, hq2, hq, rfl, hid⟩ := hrel
    have hqI2 : (q : Int) < 256 := by have : q < 2 ^ 8 := (bl_le_iff _ _).1 hq
                                      omega
    have hqb : 2 ≤ bl q := by
      have := bl_mono 2 q hq2; have e : bl 2 = 2 := by decide
      omega
    by_cases hlt : 2 * ((bl q : Int) - 1) ≤ (bl p : Int) - 1
    · by_cases hz : cmod p q = 0
      · have hz2 : (((cmod p q : Nat) : Int) == 0) = true := by rw [hz]; rfl
        have hz3 := Lib.hid hz; clear hz
        have hI : irrB p = false := by
          rw [Bool.eq_false_iff]; intro h; exact (irrB_iff p).1 h q hq2 (by omega) hz3.out
        have HI := Lib.hid hI; clear hI
        go_wp2_with (first | (go_at_call 46; refine (rdegree_any _ _ (by omega)).mono ?_; rintro e w' ⟨rfl, rfl⟩) | (go_at_call 62; refine (rrest_any _ _ _ (by omega) (by first | exact Nat.le_trans hp (by omega) | omega) (by omega) (by first | exact Nat.le_trans hq (by omega) | omega)).mono ?_; rintro e w' ⟨rfl, rfl⟩))
        go_ret
        exact ⟨ret_bool HI.out.symm, rfl⟩
      · have hz2 : (((cmod p q : Nat) : Int) == 0) = false := by simpa using hz
        have hb2 := bl_succ_le q
        go_wp2_with (first | (go_at_call 46; refine (rdegree_any _ _ (by omega)).mono ?_; rintro e w' ⟨rfl, rfl⟩) | (go_at_call 62; refine (rrest_any _ _ _ (by omega) (by first | exact Nat.le_trans hp (by omega) | omega) (by omega) (by first | exact Nat.le_trans hq (by omega) | omega)).mono ?_; rintro e w' ⟨rfl, rfl⟩))
        refine ⟨⟨q + 1, by omega, by omega, by go_num, ?_⟩, by simp [intOf]; omega⟩
        intro r h1 h2
        by_cases h3 : r = q
        · subst h3; exact hz
        · exact hid.out r h1 (by omega)
    · have hI : irrB p = true := by
        rw [irrB_iff]; intro r h1 h2
        refine hid.out r h1 ?_
        have : bl r < bl q := by omega
        exact lt_of_bl_lt _ _ this
      have HI := Lib.hid hI; clear hI
      have hlt2 : decide (2 * ((bl q : Int) - 1) ≤ (bl p : Int) - 1) = false := by simp; omega
      clear hlt hid
      go_wp2_with (first | (go_at_call 46; refine (rdegree_any _ _ (by omega)).mono ?_; rintro e w' ⟨rfl, rfl⟩))
      go_ret
      exact ⟨ret_bool HI.out.symm, rfl⟩
theorem rirr_any (p d : Int) (w : World) (h1 : p ≤ 9223372036854775807) (hd0 : 0 ≤ d) (hd : d ≤ 12) :
    Calls Try.prog 41 #[.int .i64 p, .int .i64 d] w fun e w' => e = .returned (.bool (rirrB p d)) ∧ w = w' := by
  by_cases h0 : 0 ≤ p
  · by_cases hb : (bl p.toNat : Int) - 1 = d
    · obtain ⟨P, rfl⟩ := Int.eq_ofNat_of_zero_le h0
      rw [Int.toNat_natCast] at hb
      subst hb
      have hP : 0 < P := by
        rcases Nat.eq_zero_or_pos P with h | h
        · subst h; rw [bl_zero] at hd0; omega
        · exact h
      refine (rirr_yes P w hP (by omega)).mono ?_
      rintro e w' ⟨rfl, rfl⟩
      refine ⟨ret_bool ?_, rfl⟩
      unfold rirrB; simp; 
    · exact rirr_no2 p d w h0 h1 hb
  · exact rirr_no1 p d w (by omega)
end Go.Proofs.Ytefnflmabdpnbaa
