import Derived.Test.YtefnflmabdpnbaaBin
namespace Go.Proofs.Ytefnflmabdpnbaa
/-! multiplication modulo a polynomial, or a number -/
theorem cmod_xor (x y p : Nat) (hp : p ≠ 0) : cmod (x ^^^ y) p = cmod x p ^^^ cmod y p := by
  refine (cmod_unique _ _ _ ?_ ?_).symm
  · have := cdvd_xor (cmod_dvd x p) (cmod_dvd y p)
    rw [show x ^^^ cmod x p ^^^ (y ^^^ cmod y p) = (x ^^^ y) ^^^ (cmod x p ^^^ cmod y p) from by ac_rfl] at this
    exact this
  · have h1 := cmod_lt x p hp
    have h2 := cmod_lt y p hp
    have := bl_xor_le (cmod x p) (cmod y p) (bl p - 1) (by omega) (by omega)
    omega
theorem cmod_congr (x y p : Nat) (hp : p ≠ 0) (h : cdvd p (x ^^^ y)) : cmod x p = cmod y p := by
  refine cmod_unique _ _ _ ?_ (cmod_lt _ _ hp)
  have := cdvd_xor h (cmod_dvd x p)
  rw [show x ^^^ y ^^^ (x ^^^ cmod x p) = (x ^^^ x) ^^^ (y ^^^ cmod x p) from by ac_rfl] at this
  simpa using this
theorem cmod_cmul_left (x y p : Nat) (hp : p ≠ 0) : cmod (cmul (cmod x p) y) p = cmod (cmul x y) p := by
  refine (cmod_congr _ _ _ hp ?_).symm
  rw [← xor_cmul]
  exact cdvd_mul _ (cmod_dvd x p)
theorem cmod_cmul_right (x y p : Nat) (hp : p ≠ 0) : cmod (cmul x (cmod y p)) p = cmod (cmul x y) p := by
  rw [cmul_comm, cmod_cmul_left _ _ _ hp, cmul_comm]
theorem bl_lt_of_lt (a d : Nat) (h : a < 2 ^ d) : bl a ≤ d := (bl_le_iff _ _).2 h
/-- 2 a modulo p -/
theorem cmod_double (a p d : Nat) (hp : bl p = d + 1) (ha : bl a ≤ d) : cmod (2 * a) p = if 2 ^ d ≤ 2 * a then (2 * a) ^^^ p else 2 * a := by
  have hp0 : p ≠ 0 := by intro h; subst h; rw [bl_zero] at hp; omega
  have h2 : bl (2 * a) ≤ d + 1 := by
    by_cases h : a = 0
    · subst h; rw [Nat.mul_zero, bl_zero]; omega
    · rw [bl_two_mul a h]; omega
  split
  · rename_i h
    have h3 : bl (2 * a) = d + 1 := by have := (lt_bl_iff (2 * a) d).2 h; omega
    refine (cmod_unique _ _ _ ?_ ?_).symm
    · rw [← Nat.xor_assoc]; simp; exact cdvd_refl p
    · have := bl_xor_lt (2 * a) p d h3 hp; omega
  · rename_i h
    exact cmod_small _ _ (by have := (bl_le_iff (2 * a) d).2 (by omega); omega)

/-- the product in the field with s elements and the polynomial p (0: a prime field) -/
def fmulN (s p a b : Nat) : Nat := if p = 0 then a * b % s else cmod (cmul a b) p
/-- one round of the product -/
theorem mul_round (A B p : Nat) (hp : p ≠ 0) : cmod (cmul A B) p = (if B % 2 = 1 then cmod A p else 0) ^^^ cmod (cmul (cmod (2 * A) p) (B / 2)) p := by
  rw [cmul_eq, cmod_xor _ _ _ hp, cmod_cmul_left _ _ _ hp, two_mul_cmul]
  congr 1
  split
  · rfl
  · exact cmod_small 0 p (by rw [bl_zero]; exact bl_pos p hp)
end Go.Proofs.Ytefnflmabdpnbaa
