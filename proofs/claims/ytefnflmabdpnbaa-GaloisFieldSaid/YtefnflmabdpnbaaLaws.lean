import Derived.Test.YtefnflmabdpnbaaOrd
import Derived.Test.YtefnflmabdpnbaaBits
namespace Go.Proofs.Ytefnflmabdpnbaa
set_option linter.unusedVariables false
/-! the laws of the field, said of numbers -/
def fsubN (s p a b : Nat) : Nat := if p = 0 then (a + s - b) % s else a ^^^ b
def finvN (s p a : Nat) : Nat := fpowN s p a (s - 2)
section
variable {c s p : Nat} (h : VF c s p)
include h
theorem fsubN_val (x y : El s) : fsubN s p x.val y.val = (letI := fldOf h; (x - y : El s).val) := by
  show fsubN s p x.val y.val = faddN s p x.val (fnegN s p y.val)
  unfold fsubN faddN fnegN
  split
  · rw [Nat.add_mod_mod]
    have := y.lt
    rw [show x.val + s - y.val = x.val + (s - y.val) from by omega]
  · rfl
theorem addN_assoc {x y z : Nat} (hx : x < s) (hy : y < s) (hz : z < s) : faddN s p (faddN s p x y) z = faddN s p x (faddN s p y z) := by
  letI := fldOf h
  exact congrArg El.val (fadd_assoc (⟨x, hx⟩ : El s) ⟨y, hy⟩ ⟨z, hz⟩)
theorem addN_comm {x y : Nat} (hx : x < s) (hy : y < s) : faddN s p x y = faddN s p y x := by
  letI := fldOf h
  exact congrArg El.val (fadd_comm (⟨x, hx⟩ : El s) ⟨y, hy⟩)
theorem addN_zero {x : Nat} (hx : x < s) : faddN s p x 0 = x := by
  letI := fldOf h
  exact congrArg El.val (fadd_zero (⟨x, hx⟩ : El s))
theorem mulN_assoc {x y z : Nat} (hx : x < s) (hy : y < s) (hz : z < s) : fmulN s p (fmulN s p x y) z = fmulN s p x (fmulN s p y z) := by
  letI := fldOf h
  exact congrArg El.val (fmul_assoc (⟨x, hx⟩ : El s) ⟨y, hy⟩ ⟨z, hz⟩)
theorem mulN_comm {x y : Nat} (hx : x < s) (hy : y < s) : fmulN s p x y = fmulN s p y x := by
  letI := fldOf h
  exact congrArg El.val (fmul_comm (⟨x, hx⟩ : El s) ⟨y, hy⟩)
theorem mulN_zero {x : Nat} (hx : x < s) : fmulN s p x 0 = 0 := by
  letI := fldOf h
  exact congrArg El.val (fmul_zero (⟨x, hx⟩ : El s))
theorem mulN_add {x y z : Nat} (hx : x < s) (hy : y < s) (hz : z < s) : fmulN s p x (faddN s p y z) = faddN s p (fmulN s p x y) (fmulN s p x z) := by
  letI := fldOf h
  exact congrArg El.val (fmul_add (⟨x, hx⟩ : El s) ⟨y, hy⟩ ⟨z, hz⟩)
theorem subN_lt {x y : Nat} (hx : x < s) (hy : y < s) : fsubN s p x y < s := by
  letI := fldOf h
  have e : fsubN s p x y = _ := fsubN_val h ⟨x, hx⟩ ⟨y, hy⟩
  rw [e]; exact El.lt _
theorem addN_neg {x : Nat} (hx : x < s) : faddN s p x (fsubN s p 0 x) = 0 := by
  letI := fldOf h
  have h0 : 0 < s := by omega
  have e : fsubN s p 0 x = _ := fsubN_val h ⟨0, h0⟩ ⟨x, hx⟩
  rw [e]
  have e2 : (⟨x, hx⟩ : El s) + ((0 : El s) - ⟨x, hx⟩) = 0 := by rw [fzero_sub, fadd_neg]
  exact congrArg El.val e2
theorem subN_add {x y : Nat} (hx : x < s) (hy : y < s) : faddN s p (fsubN s p x y) y = x := by
  letI := fldOf h
  have e : fsubN s p x y = _ := fsubN_val h ⟨x, hx⟩ ⟨y, hy⟩
  rw [e]
  exact congrArg El.val (fsub_add_cancel (⟨x, hx⟩ : El s) ⟨y, hy⟩)
theorem invN_lt {x : Nat} : finvN s p x < s := fpowN_lt h _ _
theorem mulN_inv {x : Nat} (hx : x < s) (h0 : x ≠ 0) : fmulN s p x (finvN s p x) = 1 := by
  letI := fldOf h
  let a : El s := ⟨x, hx⟩
  have hc : card (El s) = s := card_fldOf h
  have e : finvN s p x = (finv a).val := by
    show fpowN s p a.val (s - 2) = (a ^ (card (El s) - 2)).val
    rw [hc]; exact fpowN_val h a _
  rw [e]
  exact congrArg El.val (fmul_inv ((el_ne_zero h a).2 h0))
/-! powers -/
theorem powN_mod {x k : Nat} (hx : x < s) (hk : fpowN s p x k = 1) (n : Nat) : fpowN s p x n = fpowN s p x (n % k) := by
  letI := fldOf h
  let a : El s := ⟨x, hx⟩
  have e1 : a ^ k = 1 := (fpowN_one_iff h a k).1 hk
  have e2 := fpow_mod e1 n
  rw [show x = a.val from rfl, fpowN_val h a n, fpowN_val h a (n % k)]
  exact congrArg El.val e2
theorem powN_fermat {x : Nat} (hx : x < s) (h0 : x ≠ 0) : fpowN s p x (s - 1) = 1 := by
  letI := fldOf h
  let a : El s := ⟨x, hx⟩
  have hc : card (El s) = s := card_fldOf h
  refine (fpowN_one_iff h a _).2 ?_
  have := fermat ((el_ne_zero h a).2 h0)
  rw [hc] at this; exact this
theorem powN_add {x : Nat} (hx : x < s) (m n : Nat) : fpowN s p x (m + n) = fmulN s p (fpowN s p x m) (fpowN s p x n) := by
  letI := fldOf h
  let a : El s := ⟨x, hx⟩
  have := congrArg El.val (fpow_add a m n)
  rw [← fpowN_val] at this
  rw [show x = a.val from rfl, this, fpowN_val h a m, fpowN_val h a n]; rfl
theorem powN_lt {x : Nat} (n : Nat) : fpowN s p x n < s := fpowN_lt h _ _
/-- exponents modulo s - 1 add -/
theorem powN_emod_add {x : Nat} (hx : x < s) (h0 : x ≠ 0) (m n : Int) :
    fpowN s p x ((m + n) % ((s : Int) - 1)).toNat = fmulN s p (fpowN s p x (m % ((s : Int) - 1)).toNat) (fpowN s p x (n % ((s : Int) - 1)).toNat) := by
  have h2 := h.two_le
  have hf := powN_fermat h hx h0
  rw [← powN_add h hx, powN_mod h hx hf ((m % ((s : Int) - 1)).toNat + (n % ((s : Int) - 1)).toNat)]
  congr 1
  have a1 := Int.emod_nonneg m (show (s : Int) - 1 ≠ 0 by omega)
  have a2 := Int.emod_nonneg n (show (s : Int) - 1 ≠ 0 by omega)
  have a3 := Int.emod_nonneg (m + n) (show (s : Int) - 1 ≠ 0 by omega)
  have e : (((m % ((s : Int) - 1)).toNat + (n % ((s : Int) - 1)).toNat) % (s - 1) : Nat) = (((m + n) % ((s : Int) - 1)).toNat : Nat) := by
    apply Int.ofNat.inj
    show (((((m % ((s : Int) - 1)).toNat + (n % ((s : Int) - 1)).toNat) % (s - 1) : Nat)) : Int) = (((m + n) % ((s : Int) - 1)).toNat : Int)
    rw [Int.natCast_emod, Int.natCast_add, Int.toNat_of_nonneg a1, Int.toNat_of_nonneg a2, Int.toNat_of_nonneg a3, show ((s - 1 : Nat) : Int) = (s : Int) - 1 from by omega]
    rw [Int.add_emod m n]
  exact e.symm
/-- the power Char of a sum -/
theorem powN_char {x y : Nat} (hx : x < s) (hy : y < s) : fpowN s p (faddN s p x y) c = faddN s p (fpowN s p x c) (fpowN s p y c) := by
  letI := fldOf h
  let a : El s := ⟨x, hx⟩
  let b : El s := ⟨y, hy⟩
  have hc : card (El s) = s := card_fldOf h
  have key : (a + b) ^ c = a ^ c + b ^ c := by
    rcases id h with ⟨hp, hcs, -⟩ | ⟨d, h1, -, hp, hs, h2, -⟩
    · have e := fpow_card (a + b)
      have e1 := fpow_card a
      have e2 := fpow_card b
      rw [hc] at e e1 e2
      rw [hcs, e, e1, e2]
    · have hp0 : p ≠ 0 := by intro h; subst h; rw [bl_zero] at hp; omega
      have two : ∀ z : El s, z + z = 0 := by
        intro z
        refine El.ext ?_
        show faddN s p z.val z.val = 0
        unfold faddN; rw [if_neg hp0, Nat.xor_self]
      subst h2
      have sq : ∀ z : El s, z ^ 2 = z * z := fun z => by rw [fpow_succ, fpow_one]
      rw [sq, sq, sq, fmul_add, fadd_mul, fadd_mul]
      rw [show a * a + b * a + (a * b + b * b) = (a * a + b * b) + (b * a + a * b) from by ac_rfl, fmul_comm b a, two, fadd_zero]
  have e := congrArg El.val key
  rw [← fpowN_val] at e
  have e3 : (a ^ c + b ^ c : El s).val = faddN s p (fpowN s p x c) (fpowN s p y c) := by
    show faddN s p (a ^ c).val (b ^ c).val = _
    rw [← fpowN_val, ← fpowN_val]
  rw [← e3, ← e]; rfl
/-- the order divides s - 1 -/
theorem ordF_dvd {x : Nat} (hx : x < s) (h0 : x ≠ 0) : (s - 1) % ordF s p x = 0 ∧ 1 ≤ ordF s p x ∧ ordF s p x ≤ s - 1 ∧ fpowN s p x (ordF s p x) = 1 := by
  have ho := ordF_spec h hx h0
  letI := fldOf h
  let a : El s := ⟨x, hx⟩
  have hc : card (El s) = s := card_fldOf h
  have := ((ordN_iff h a _).1 ho.1).dvd_card
  rw [hc] at this
  exact ⟨Nat.mod_eq_zero_of_dvd this, ho.1.1, ho.2, ho.1.2.1⟩
/-- the logarithm of a product -/
theorem logF_mul {x y : Nat} (hx : x < s) (hy : y < s) (hx0 : x ≠ 0) (hy0 : y ≠ 0) : logF s p (fmulN s p x y) = (logF s p x + logF s p y) % (s - 1) ∧ fmulN s p x y ≠ 0 := by
  have h2 := h.two_le
  have a := logF_spec h hx hx0
  have b := logF_spec h hy hy0
  have hne : fmulN s p x y ≠ 0 := by
    intro e
    rcases mul_zero_of h x y hx hy e with e | e
    · exact hx0 e
    · exact hy0 e
  refine ⟨logF_of h (fmul_lt h _ _) hne (Nat.mod_lt _ (by omega)) ?_, hne⟩
  have hg := genF_spec h
  rw [← powN_mod h hg.2.1 hg.2.2.1.2.1, powN_add h hg.2.1, a.2, b.2]
end
end Go.Proofs.Ytefnflmabdpnbaa
