import Derived.Test.YtefnflmabdpnbaaField
namespace Go.Proofs.Ytefnflmabdpnbaa
set_option linter.unusedVariables false
/-! powers in the program's fields -/
section
variable {c s p : Nat} (h : VF c s p)
include h
theorem fmulN_val (a b : El s) : fmulN s p a.val b.val = (@HMul.hMul (El s) (El s) (El s) (@instHMul _ (@Fl.instMul (El s) (fldOf h))) a b).val := rfl
theorem fpowN_lt (a n : Nat) : fpowN s p a n < s := by
  cases n with
  | zero => have := h.two_le; show 1 < s; omega
  | succ n => exact fmul_lt h _ _
theorem pow_even (r a N : Nat) (hr : r < s) (ha : a < s) (hN : N % 2 = 0) :
    fmulN s p r (fpowN s p (fmulN s p a a) (N / 2)) = fmulN s p r (fpowN s p a N) := by
  letI := fldOf h
  let x : El s := ⟨a, ha⟩
  have e1 : fmulN s p a a = (x * x).val := rfl
  have e2 : fpowN s p a N = (x ^ N).val := fpowN_val h x N
  rw [e1, e2, fpowN_val h (x * x) (N / 2)]
  have e3 : (x * x) ^ (N / 2) = x ^ N := by
    rw [fmul_pow, ← fpow_add]
    exact congrArg (fun n => x ^ n) (show N / 2 + N / 2 = N by omega)
  rw [← e3]
theorem pow_odd (r a N : Nat) (hr : r < s) (ha : a < s) (hN : N % 2 = 1) :
    fmulN s p (fmulN s p r a) (fpowN s p (fmulN s p a a) (N / 2)) = fmulN s p r (fpowN s p a N) := by
  letI := fldOf h
  let x : El s := ⟨a, ha⟩
  let y : El s := ⟨r, hr⟩
  have e1 : fmulN s p a a = (x * x).val := rfl
  have e2 : fpowN s p a N = (x ^ N).val := fpowN_val h x N
  have e4 : fmulN s p r a = (y * x).val := rfl
  rw [e1, e2, e4, fpowN_val h (x * x) (N / 2)]
  have e3 : y * x * (x * x) ^ (N / 2) = y * x ^ N := by
    have e5 : x ^ N = x ^ (N / 2 + N / 2) * x := by
      rw [← fpow_succ]; exact congrArg (fun n => x ^ n) (show N = N / 2 + N / 2 + 1 by omega)
    rw [fmul_pow, ← fpow_add, fmul_assoc, fmul_comm x, e5]
  show (y * x * (x * x) ^ (N / 2)).val = (y * x ^ N).val
  rw [e3]
theorem one_mulN (a : Nat) (ha : a < s) : fmulN s p 1 a = a := by
  letI := fldOf h
  let x : El s := ⟨a, ha⟩
  show ((1 : El s) * x).val = x.val
  rw [fone_mul]
theorem mul_oneN (a : Nat) (ha : a < s) : fmulN s p a 1 = a := by
  letI := fldOf h
  let x : El s := ⟨a, ha⟩
  show (x * (1 : El s)).val = x.val
  rw [fmul_one]
end
end Go.Proofs.Ytefnflmabdpnbaa
