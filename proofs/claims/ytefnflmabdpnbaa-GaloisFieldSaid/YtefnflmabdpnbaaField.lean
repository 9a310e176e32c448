import Derived.Test.YtefnflmabdpnbaaMul
import Derived.Test.YtefnflmabdpnbaaFld
namespace Go.Proofs.Ytefnflmabdpnbaa
/-! the program's fields are fields -/
/-- no polynomial of degree 1 to half the degree divides p -/
def irrB (p : Nat) : Bool := (List.range (2 ^ ((bl p - 1) / 2 + 1))).all fun q => decide (q < 2) || cmod p q != 0
theorem irrB_iff (p : Nat) : irrB p = true ↔ ∀ q, 2 ≤ q → 2 * (bl q - 1) ≤ bl p - 1 → cmod p q ≠ 0 := by
  unfold irrB
  rw [List.all_eq_true]
  constructor
  · intro h q h2 hd
    have hb := bl_pos q (by omega)
    have := h q (List.mem_range.2 ((bl_le_iff _ _).1 (by omega)))
    simp at this; omega
  · intro h q hq
    have h1 := (bl_le_iff q _).2 (List.mem_range.1 hq)
    by_cases h2 : q < 2
    · simp [h2]
    · have := h q (by omega) (by have := bl_pos q (by omega); omega)
      simp [this]
/-- no number from 2 on whose square is at most n divides n -/
def primeB (n : Nat) : Bool := decide (2 ≤ n) && (List.range (n + 1)).all fun d => decide (d < 2) || decide (n < d * d) || n % d != 0
theorem primeB_iff (n : Nat) : primeB n = true ↔ 2 ≤ n ∧ ∀ d, 2 ≤ d → d * d ≤ n → n % d ≠ 0 := by
  unfold primeB
  rw [Bool.and_eq_true, List.all_eq_true, decide_eq_true_iff]
  constructor
  · rintro ⟨h0, h⟩
    refine ⟨h0, fun d h2 hd => ?_⟩
    have hle : d ≤ n := Nat.le_trans (Nat.le_mul_of_pos_left d (by omega)) hd
    have := h d (List.mem_range.2 (by omega))
    simp at this
    omega
  · rintro ⟨h0, h⟩
    refine ⟨h0, fun d _ => ?_⟩
    by_cases h2 : d < 2
    · simp [h2]
    · by_cases h3 : n < d * d
      · simp [h3]
      · have := h d (by omega) (by omega); simp [this]
theorem prime_dvd {n : Nat} (h : primeB n = true) : ∀ d, d ∣ n → d = 1 ∨ d = n := by
  obtain ⟨h2, hd⟩ := (primeB_iff n).1 h
  intro d hdn
  obtain ⟨e, he⟩ := hdn
  have hd0 : d ≠ 0 := by intro h; subst h; omega
  have he0 : e ≠ 0 := by intro h; subst h; omega
  by_cases d1 : d = 1
  · exact .inl d1
  by_cases e1 : e = 1
  · subst e1; right; omega
  exfalso
  by_cases hde : d ≤ e
  · have : d * d ≤ n := by rw [he]; exact Nat.mul_le_mul_left d hde
    exact hd d (by omega) this (by rw [he]; exact Nat.mul_mod_right d e)
  · have : e * e ≤ n := by rw [he]; exact Nat.mul_le_mul_right e (by omega)
    exact hd e (by omega) this (Nat.mod_eq_zero_of_dvd ⟨d, by rw [he, Nat.mul_comm]⟩)
theorem irr_of {p d : Nat} (hp : bl p = d + 1) (h1 : 1 ≤ d) (h : irrB p = true) : Irr p := by
  refine ⟨by omega, fun q hq hd hdv => ?_⟩
  exact (irrB_iff p).1 h q hq hd ((cmod_eq_zero p q (by omega)).2 hdv)

/-- a valid field: characteristic, number of elements, polynomial -/
def VF (c s p : Nat) : Prop :=
  (p = 0 ∧ c = s ∧ 2 < s ∧ s ≤ 4096 ∧ primeB s = true) ∨ (∃ d, 1 ≤ d ∧ d ≤ 12 ∧ bl p = d + 1 ∧ s = 2 ^ d ∧ c = 2 ∧ irrB p = true)
def faddN (s p a b : Nat) : Nat := if p = 0 then (a + b) % s else a ^^^ b
def fnegN (s p a : Nat) : Nat := if p = 0 then (s - a) % s else a
/-- an element -/
structure El (s : Nat) where
  val : Nat
  lt : val < s
theorem El.ext {s : Nat} {a b : El s} (h : a.val = b.val) : a = b := by
  cases a; cases b; simp only at h; subst h; rfl
theorem VF.two_le {c s p : Nat} (h : VF c s p) : 2 ≤ s := by
  rcases h with ⟨-, -, h, -⟩ | ⟨d, h1, -, -, h, -⟩
  · omega
  · rw [h]; exact Nat.pow_le_pow_right (n := 2) (by omega) h1
theorem VF.le {c s p : Nat} (h : VF c s p) : s ≤ 4096 := by
  rcases h with ⟨-, -, -, h, -⟩ | ⟨d, -, h1, -, h, -⟩
  · omega
  · rw [h]; exact Nat.pow_le_pow_right (n := 2) (by omega) h1
theorem fadd_lt {c s p : Nat} (h : VF c s p) (a b : Nat) (ha : a < s) (hb : b < s) : faddN s p a b < s := by
  have h2 := h.two_le
  unfold faddN
  rcases h with ⟨hp, -⟩ | ⟨d, -, -, hp, hs, -⟩
  · rw [if_pos hp]; exact Nat.mod_lt _ (by omega)
  · rw [if_neg (by intro h; subst h; rw [bl_zero] at hp; omega)]
    subst hs; exact Nat.xor_lt_two_pow ha hb
theorem fneg_lt {c s p : Nat} (h : VF c s p) (a : Nat) (ha : a < s) : fnegN s p a < s := by
  unfold fnegN
  split
  · exact Nat.mod_lt _ (by have := h.two_le; omega)
  · exact ha
theorem fmul_lt {c s p : Nat} (h : VF c s p) (a b : Nat) : fmulN s p a b < s := by
  have h2 := h.two_le
  unfold fmulN
  rcases h with ⟨hp, -⟩ | ⟨d, -, -, hp, hs, -⟩
  · rw [if_pos hp]; exact Nat.mod_lt _ (by omega)
  · have hp0 : p ≠ 0 := by intro h; subst h; rw [bl_zero] at hp; omega
    rw [if_neg hp0]
    subst hs; exact (bl_le_iff _ _).1 (by have := cmod_lt (cmul a b) p hp0; omega)
theorem mod_mul_mod_left (a b n : Nat) : (a % n) * b % n = a * b % n := by rw [Nat.mul_mod, Nat.mod_mod, ← Nat.mul_mod]
theorem mod_mul_mod_right (a b n : Nat) : a * (b % n) % n = a * b % n := by rw [Nat.mul_mod, Nat.mod_mod, ← Nat.mul_mod]
theorem neg_add_mod (a s : Nat) (ha : a < s) : ((s - a) % s + a) % s = 0 := by
  by_cases h : a = 0
  · subst h; simp
  · rw [Nat.mod_eq_of_lt (by omega : s - a < s), show s - a + a = s from by omega, Nat.mod_self]
instance elDec (s : Nat) : DecidableEq (El s) := fun a b =>
  if h : a.val = b.val then isTrue (El.ext h) else isFalse (fun e => h (by rw [e]))
theorem mul_zero_of {c s p : Nat} (h : VF c s p) (a b : Nat) (ha : a < s) (hb : b < s) (h0 : fmulN s p a b = 0) : a = 0 ∨ b = 0 := by
  unfold fmulN at h0
  rcases h with ⟨hp, -, -, -, hpr⟩ | ⟨d, h1, -, hp, hs, -, hir⟩
  · rw [if_pos hp] at h0
    have hd := Nat.dvd_of_mod_eq_zero h0
    by_cases hsa : s ∣ a
    · left
      by_cases ha0 : a = 0
      · exact ha0
      · exact absurd (Nat.le_of_dvd (by omega) hsa) (by omega)
    · right
      have hc := coprime_of_prime (prime_dvd hpr) hsa
      have hsb := hc.dvd_of_dvd_mul_left hd
      by_cases hb0 : b = 0
      · exact hb0
      · exact absurd (Nat.le_of_dvd (by omega) hsb) (by omega)
  · have hp0 : p ≠ 0 := by intro h; subst h; rw [bl_zero] at hp; omega
    rw [if_neg hp0] at h0
    subst hs
    have hba := (bl_le_iff _ _).2 ha
    have hbb := (bl_le_iff _ _).2 hb
    rcases euclid p a b (irr_of hp h1 hir) ((cmod_eq_zero _ _ hp0).1 h0) with h | h
    · exact .inl (cdvd_small h (by omega))
    · exact .inr (cdvd_small h (by omega))
/-- THE FIELD -/
@[reducible] def fldOf {c s p : Nat} (h : VF c s p) : Fl (El s) where
  add a b := ⟨faddN s p a.val b.val, fadd_lt h _ _ a.lt b.lt⟩
  mul a b := ⟨fmulN s p a.val b.val, fmul_lt h _ _⟩
  neg a := ⟨fnegN s p a.val, fneg_lt h _ a.lt⟩
  zero := ⟨0, by have := h.two_le; omega⟩
  one := ⟨1, by have := h.two_le; omega⟩
  add_assoc a b c := El.ext (by
    simp only [faddN]; split
    · rw [Nat.mod_add_mod, Nat.add_mod_mod, Nat.add_assoc]
    · exact Nat.xor_assoc _ _ _)
  add_comm a b := El.ext (by
    simp only [faddN]; split
    · rw [Nat.add_comm]
    · exact Nat.xor_comm _ _)
  zero_add a := El.ext (by
    simp only [faddN]; split
    · rw [Nat.zero_add]; exact Nat.mod_eq_of_lt a.lt
    · exact Nat.zero_xor _)
  neg_add a := El.ext (by
    simp only [faddN, fnegN]; split
    · exact neg_add_mod _ _ a.lt
    · exact Nat.xor_self _)
  mul_assoc a b c := El.ext (by
    simp only [fmulN]; split
    · rw [mod_mul_mod_left, mod_mul_mod_right, Nat.mul_assoc]
    · rename_i hp; rw [cmod_cmul_left _ _ _ hp, cmod_cmul_right _ _ _ hp, cmul_assoc])
  mul_comm a b := El.ext (by
    simp only [fmulN]; split
    · rw [Nat.mul_comm]
    · rw [cmul_comm])
  one_mul a := El.ext (by
    simp only [fmulN]
    rcases h with ⟨hp, -⟩ | ⟨d, -, -, hp, hs, -⟩
    · rw [if_pos hp, Nat.one_mul]; exact Nat.mod_eq_of_lt a.lt
    · have hp0 : p ≠ 0 := by intro h; subst h; rw [bl_zero] at hp; omega
      rw [if_neg hp0, one_cmul]
      have := a.lt; subst hs
      exact cmod_small _ _ (by have := (bl_le_iff _ _).2 this; omega))
  add_mul a b c := El.ext (by
    simp only [fmulN, faddN]; split
    · rw [mod_mul_mod_left, Nat.add_mul, Nat.mod_add_mod, Nat.add_mod_mod]
    · rename_i hp; rw [xor_cmul, cmod_xor _ _ _ hp])
  one_ne := by intro e; have := congrArg El.val e; simp at this
  nzd a b e := by
    rcases mul_zero_of h a.val b.val a.lt b.lt (congrArg El.val e) with h | h
    · exact .inl (El.ext h)
    · exact .inr (El.ext h)
  dec := elDec s
  els := (List.finRange s).map fun i => ⟨i.val, i.isLt⟩
  nodup := nodup_map (fun a _ b _ e => Fin.ext (congrArg El.val e)) (List.nodup_finRange s)
  mem a := List.mem_map.2 ⟨⟨a.val, a.lt⟩, List.mem_finRange _, rfl⟩
theorem card_fldOf {c s p : Nat} (h : VF c s p) : @card (El s) (fldOf h) = s := by
  show ((List.finRange s).map _).length = s
  simp
/-- powers, as n times the product -/
def fpowN (s p a : Nat) : Nat → Nat
  | 0 => 1
  | n + 1 => fmulN s p (fpowN s p a n) a
theorem fpowN_val {c s p : Nat} (h : VF c s p) (a : El s) (n : Nat) : fpowN s p a.val n = (@HPow.hPow (El s) Nat (El s) (@Fl.instHPowNat (El s) (fldOf h)) a n).val := by
  induction n with
  | zero => rfl
  | succ n ih => simp only [fpowN]; rw [ih]; rfl
end Go.Proofs.Ytefnflmabdpnbaa
