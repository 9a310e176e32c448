import Derived.Test.YtefnflmabdpnbaaWalkA
import Derived.Test.YtefnflmabdpnbaaBits
import Derived.Test.YtefnflmabdpnbaaField
namespace Go.Proofs.Ytefnflmabdpnbaa
open Go.RowKit

theorem ret_int {k : IntKind} {a b : Int} (h : a = b) : Ending.returned (.int k a) = .returned (.int k b) := by rw [h]
theorem ret_bool {a b : Bool} (h : a = b) : Ending.returned (.bool a) = .returned (.bool b) := by rw [h]
theorem bl40 (P : Nat) (h : bl P ≤ 40) : P < 2 ^ 40 := (bl_le_iff _ _).1 h
theorem step_val (P q : Nat) (hP : bl P ≤ 40) (hq0 : 0 < q) (hlt : bl q ≤ bl P) :
    bits BinOp.xor IntKind.i64 (↑P) (wrap64 (↑q * 2 ^ (bl P - 1 - (bl q - 1)))) = ((cstep P q : Nat) : Int) := by
  have h0 := bl_pos q (by omega)
  rw [show bl P - 1 - (bl q - 1) = bl P - bl q from by omega]
  have h1 := bl_shift q (bl P - bl q) (by omega)
  have h2 := bl40 (q * 2 ^ (bl P - bl q)) (by omega)
  have h3 := bl40 P hP
  rw [show ((q : Int) * 2 ^ (bl P - bl q)) = ((q * 2 ^ (bl P - bl q) : Nat) : Int) from by simp]
  rw [IntWalk.wrap64_in _ (by omega), i64_xor_nat _ _ (by omega) (by omega)]
  rfl
theorem cmod_cstep (P q : Nat) (hq0 : 0 < q) : cmod (cstep P q) q = cmod P q := by
  refine (cmod_unique _ _ _ ?_ (cmod_lt _ _ (by omega))).symm
  have h1 := cmod_dvd P q
  have h2 := cdvd_xor h1 (⟨2 ^ (bl P - bl q), (cmul_pow q _).symm⟩ : cdvd q (q * 2 ^ (bl P - bl q)))
  rw [show P ^^^ cmod P q ^^^ q * 2 ^ (bl P - bl q) = (P ^^^ q * 2 ^ (bl P - bl q)) ^^^ cmod P q from by ac_rfl] at h2
  exact h2

set_option maxHeartbeats 400000 in
theorem rem_nat (p q : Nat) (w : World) (hp : p < 2 ^ 40) (hq0 : 0 < q) (hq : q < 2 ^ 40) :
    Calls Try.prog 64 #[.int .i64 p, .int .i64 q] w fun e w' => e = .returned (.int .i64 (cmod p q)) ∧ w = w' := by
  have hpb : bl p ≤ 40 := (bl_le_iff _ _).2 hp
  have hqb : bl q ≤ 40 := (bl_le_iff _ _).2 hq
  have hqp : 0 < bl q := bl_pos q (by omega)
  have hpI : (p : Int) ≤ 9223372036854775807 := by omega
  have hqI : (q : Int) ≤ 9223372036854775807 := by omega
  go_enter Try.func64, Try.ntmps64
  go_wp2_with fail
  go_loop [0] (fun t => ∃ P : Nat, bl P ≤ 40 ∧ t = .int .i64 P ∧ Hid (cmod P q = cmod p q)) (fun t => bl (intOf t).toNat)
  case atStart => exact ⟨p, hpb, rfl, rfl⟩
  case round =>
    obtain ⟨P, hP, rfl, hid⟩ := hrel
    have hPI : (P : Int) ≤ 9223372036854775807 := by
      have := bl40 P hP; omega
    by_cases hlt : bl q ≤ bl P
    · have hlt2 := cstep_lt P q (by omega) hlt
      go_wp2_with (go_at_call 44; refine (degree_any _ _ (by omega) (by omega)).mono ?_; rintro e w' ⟨rfl, rfl⟩)
      rw [step_val P q hP hq0 hlt]
      refine ⟨⟨cstep P q, by omega, rfl, ?_⟩, hlt2⟩
      show cmod _ _ = _
      rw [cmod_cstep P q hq0]; exact hid.out
    · go_wp2_with (go_at_call 44; refine (degree_any _ _ (by omega) (by omega)).mono ?_; rintro e w' ⟨rfl, rfl⟩)
      go_ret
      exact ⟨ret_int (by rw [← hid.out, cmod_small P q (by omega)]), rfl⟩

theorem rem_any (p q : Int) (w : World) (hp0 : 0 ≤ p) (hp : p < 1099511627776) (hq0 : 0 < q) (hq : q < 1099511627776) :
    Calls Try.prog 64 #[.int .i64 p, .int .i64 q] w fun e w' => e = .returned (.int .i64 (cmod p.toNat q.toNat)) ∧ w = w' := by
  obtain ⟨P, rfl⟩ := Int.eq_ofNat_of_zero_le hp0
  obtain ⟨Q, rfl⟩ := Int.eq_ofNat_of_zero_le (Int.le_of_lt hq0)
  exact rem_nat P Q w (by omega) (by omega) (by omega)

theorem bl_succ_le (q : Nat) : bl (q + 1) ≤ bl q + 1 := by
  have := lt_pow_bl q
  exact (bl_le_iff _ _).2 (by rw [Nat.pow_succ]; have := Nat.two_pow_pos (bl q); omega)

set_option maxRecDepth 100000 in
set_option maxHeartbeats 400000 in
theorem irr_nat (p : Nat) (w : World) (hp0 : 0 < p) (hp : bl p ≤ 13) :
    Calls Try.prog 45 #[.int .i64 p] w fun e w' => e = .returned (.bool (irrB p)) ∧ w = w' := by
  have hp40 : p < 2 ^ 13 := (bl_le_iff _ _).1 hp
  have hpp := bl_pos p (by omega)
  have hpI : (p : Int) ≤ 9223372036854775807 := by omega
  have hpI2 : (p : Int) < 1099511627776 := by omega
  go_enter Try.func45, Try.ntmps45
  go_wp2_with fail
  go_loop [3] (fun t => ∃ q : Nat, 2 ≤ q ∧ bl q ≤ 8 ∧ t = .int .i64 q ∧ Hid (∀ r, 2 ≤ r → r < q → cmod p r ≠ 0)) (fun t => 300 - (intOf t).toNat)
  case atStart => exact ⟨2, by omega, by decide, rfl, fun r h1 h2 => by omega⟩
  case round =>
    obtain ⟨q, hq2, hq, rfl, hid⟩ := hrel
    have hqI : q < 2 ^ 8 := (bl_le_iff _ _).1 hq
    have hqI2 : (q : Int) < 256 := by omega
    have hqb : 2 ≤ bl q := by
      have := bl_mono 2 q hq2; have e : bl 2 = 2 := by decide
      omega
    by_cases hlt : 2 * ((bl q : Int) - 1) ≤ (bl p : Int) - 1
    · by_cases hz : cmod p q = 0
      · have hz2 : (((cmod p q : Nat) : Int) == 0) = true := by rw [hz]; rfl
        have hz3 := Lib.hid hz; clear hz
        have hI : irrB p = false := by
          rw [Bool.eq_false_iff]; intro h; exact (irrB_iff p).1 h q hq2 (by omega) hz3.out
        have HI := Lib.hid hI; clear hI
        go_wp2_with (first | (go_at_call 44; refine (degree_any _ _ (by omega) (by omega)).mono ?_; rintro e w' ⟨rfl, rfl⟩) | (go_at_call 64; refine (rem_any _ _ _ (by omega) (by omega) (by omega) (by omega)).mono ?_; rintro e w' ⟨rfl, rfl⟩))
        go_ret
        exact ⟨ret_bool HI.out.symm, rfl⟩
      · have hz2 : (((cmod p q : Nat) : Int) == 0) = false := by simpa using hz
        have hb2 := bl_succ_le q
        go_wp2_with (first | (go_at_call 44; refine (degree_any _ _ (by omega) (by omega)).mono ?_; rintro e w' ⟨rfl, rfl⟩) | (go_at_call 64; refine (rem_any _ _ _ (by omega) (by omega) (by omega) (by omega)).mono ?_; rintro e w' ⟨rfl, rfl⟩))
        refine ⟨⟨q + 1, by omega, by omega, by go_num, ?_⟩, by simp [intOf]; omega⟩
        intro r h1 h2
        by_cases h3 : r = q
        · subst h3; exact hz
        · exact hid.out r h1 (by omega)
    · have hI : irrB p = true := by
        rw [irrB_iff]; intro r h1 h2
        refine hid.out r h1 ?_
        have : bl r < bl q := by omega
        exact lt_of_bl_lt _ _ this
      have HI := Lib.hid hI; clear hI
      have hlt2 : bl p + 2 ≤ 2 * bl q := by omega
      clear hlt hid hqI hp40 hpI2
      go_wp2_with (first | (go_at_call 44; refine (degree_any _ _ (by omega) (by omega)).mono ?_; rintro e w' ⟨rfl, rfl⟩))
      go_ret
      exact ⟨ret_bool HI.out.symm, rfl⟩
theorem irr_any (p : Int) (w : World) (hp0 : 0 < p) (hp : bl p.toNat ≤ 13) :
    Calls Try.prog 45 #[.int .i64 p] w fun e w' => e = .returned (.bool (irrB p.toNat)) ∧ w = w' := by
  obtain ⟨P, rfl⟩ := Int.eq_ofNat_of_zero_le (Int.le_of_lt hp0)
  exact irr_nat P w (by omega) hp

set_option maxHeartbeats 400000 in
theorem prime_nat (n : Nat) (w : World) (hn : 2 ≤ n) (hn2 : n ≤ 4096) :
    Calls Try.prog 42 #[.int .i64 n] w fun e w' => e = .returned (.bool (primeB n)) ∧ w = w' := by
  go_enter Try.func42, Try.ntmps42
  go_wp2_with fail
  go_loop [3] (fun t => ∃ d : Nat, 2 ≤ d ∧ d ≤ 65 ∧ t = .int .i64 d ∧ Hid (∀ r, 2 ≤ r → r < d → n % r ≠ 0)) (fun t => 100 - (intOf t).toNat)
  case atStart => exact ⟨2, by omega, by decide, rfl, fun r h1 h2 => by omega⟩
  case round =>
    obtain ⟨d, hd2, hd, rfl, hid⟩ := hrel
    have hdd : d * d ≤ 65 * 65 := Nat.mul_le_mul hd hd
    have hdd0 : (0 : Int) ≤ (d : Int) * d := by have : (0 : Int) ≤ ((d * d : Nat) : Int) := by omega
                                                simpa using this
    have hdd1 : (d : Int) * d ≤ 4225 := by have : ((d * d : Nat) : Int) ≤ 4225 := by omega
                                           simpa using this
    by_cases hlt : d * d ≤ n
    · have hlt2 : (d : Int) * d ≤ n := by have : ((d * d : Nat) : Int) ≤ n := by omega
                                          simpa using this
      have hd3 : d ≤ 64 := by
        rcases Nat.lt_or_ge d 65 with h | h
        · omega
        · have := Nat.mul_le_mul h h; omega
      clear hlt
      by_cases hz : n % d = 0
      · have hz2 : (((n : Int) % (d : Int)) == 0) = true := by
          have : ((n % d : Nat) : Int) = 0 := by omega
          simpa using this
        have hI : primeB n = false := by
          rw [Bool.eq_false_iff]; intro h
          have h4 : d * d ≤ n := by have : ((d * d : Nat) : Int) ≤ n := by simpa using hlt2
                                    omega
          exact ((primeB_iff n).1 h).2 d hd2 h4 hz
        have HI := Lib.hid hI; clear hI
        clear hz
        go_wp2
        go_ret
        exact ⟨ret_bool HI.out.symm, rfl⟩
      · have hz2 : (((n : Int) % (d : Int)) == 0) = false := by
          have : ((n % d : Nat) : Int) ≠ 0 := by omega
          simpa using this
        have HZ := Lib.hid hz; clear hz
        go_wp2
        refine ⟨⟨d + 1, by omega, by omega, by go_num, ?_⟩, by simp [intOf]; omega⟩
        intro r h1 h2
        by_cases h3 : r = d
        · subst h3; exact HZ.out
        · exact hid.out r h1 (by omega)
    · have hlt2 : ¬ (d : Int) * d ≤ n := by
        have : ¬ ((d * d : Nat) : Int) ≤ n := by omega
        simpa using this
      have hI : primeB n = true := by
        rw [primeB_iff]; refine ⟨hn, fun r h1 h2 => hid.out r h1 ?_⟩
        rcases Nat.lt_or_ge r d with h | h
        · exact h
        · have := Nat.mul_le_mul h h; omega
      have HI := Lib.hid hI; clear hI
      clear hlt
      go_wp2
      go_ret
      exact ⟨ret_bool HI.out.symm, rfl⟩
theorem prime_any (n : Int) (w : World) (hn : 2 ≤ n) (hn2 : n ≤ 4096) :
    Calls Try.prog 42 #[.int .i64 n] w fun e w' => e = .returned (.bool (primeB n.toNat)) ∧ w = w' := by
  obtain ⟨P, rfl⟩ := Int.eq_ofNat_of_zero_le (by omega : 0 ≤ n)
  exact prime_nat P w (by omega) (by omega)
end Go.Proofs.Ytefnflmabdpnbaa
