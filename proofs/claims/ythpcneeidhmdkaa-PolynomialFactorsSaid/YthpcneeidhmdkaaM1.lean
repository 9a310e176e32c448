import Derived.WalkKit
namespace Go.Proofs.Ythpcneeidhmdkaa
/-! Polynomials over GF(2) as natural numbers -/

theorem xor_mod2 (a b : Nat) : (a ^^^ b) % 2 = (a % 2 + b % 2) % 2 := by
  have h := Nat.testBit_xor a b 0
  simp only [Nat.testBit_zero] at h
  have ha := Nat.mod_two_eq_zero_or_one a
  have hb := Nat.mod_two_eq_zero_or_one b
  have hc := Nat.mod_two_eq_zero_or_one (a ^^^ b)
  rcases ha with ha | ha <;> rcases hb with hb | hb <;> rcases hc with hc | hc <;> simp [ha, hb, hc] at h ⊢

theorem xor_div2 (a b : Nat) : (a ^^^ b) / 2 = a / 2 ^^^ b / 2 := by
  apply Nat.eq_of_testBit_eq; intro i
  simp [Nat.testBit_xor, Nat.testBit_div_two]

theorem two_mul_xor (a b : Nat) : 2 * (a ^^^ b) = 2 * a ^^^ 2 * b := by
  apply Nat.eq_of_testBit_eq; intro i
  cases i with
  | zero => simp [Nat.testBit_zero, xor_mod2]
  | succ i => simp [Nat.testBit_succ, xor_div2]

/-- carryless product, by the bits of b -/
def cmulF : Nat → Nat → Nat → Nat
  | 0, _, _ => 0
  | n + 1, a, b => (if b % 2 = 1 then a else 0) ^^^ 2 * cmulF n a (b / 2)

theorem cmulF_zero_right (n a : Nat) : cmulF n a 0 = 0 := by
  induction n with
  | zero => rfl
  | succ n ih => simp [cmulF, ih]

theorem cmulF_fuel (n m a b : Nat) (hn : b ≤ n) (hm : b ≤ m) : cmulF n a b = cmulF m a b := by
  induction n generalizing m b with
  | zero => obtain rfl : b = 0 := by omega
            rw [cmulF_zero_right, cmulF_zero_right]
  | succ n ih =>
    cases m with
    | zero => obtain rfl : b = 0 := by omega
              rw [cmulF_zero_right, cmulF_zero_right]
    | succ m => simp only [cmulF]; rw [ih m (b / 2) (by omega) (by omega)]

def cmul (a b : Nat) : Nat := cmulF b a b

theorem cmul_zero (a : Nat) : cmul a 0 = 0 := rfl
theorem cmul_eq (a b : Nat) : cmul a b = (if b % 2 = 1 then a else 0) ^^^ 2 * cmul a (b / 2) := by
  by_cases hb : b = 0
  · subst hb; simp [cmul, cmulF]
  · obtain ⟨c, rfl⟩ : ∃ c, b = c + 1 := ⟨b - 1, by omega⟩
    unfold cmul
    rw [cmulF]
    rw [cmulF_fuel c ((c+1)/2) a ((c+1)/2) (by omega) (by omega)]

theorem cmul_two_mul (a b : Nat) : cmul a (2 * b) = 2 * cmul a b := by
  rw [cmul_eq]; simp

theorem cmul_one (a : Nat) : cmul a 1 = a := by
  rw [cmul_eq]; simp [cmul_zero]

theorem zero_cmul (b : Nat) : cmul 0 b = 0 := by
  induction b using Nat.strongRecOn with
  | _ b ih =>
    by_cases hb : b = 0
    · subst hb; rfl
    · rw [cmul_eq, ih (b / 2) (by omega)]; simp

theorem xor_cmul (a b c : Nat) : cmul (a ^^^ b) c = cmul a c ^^^ cmul b c := by
  induction c using Nat.strongRecOn with
  | _ c ih =>
    by_cases hc : c = 0
    · subst hc; simp [cmul_zero]
    · rw [cmul_eq (a ^^^ b), cmul_eq a c, cmul_eq b c, ih (c / 2) (by omega), two_mul_xor]
      split
      · ac_rfl
      · simp

theorem two_mul_cmul (a b : Nat) : cmul (2 * a) b = 2 * cmul a b := by
  induction b using Nat.strongRecOn with
  | _ b ih =>
    by_cases hb : b = 0
    · subst hb; simp [cmul_zero]
    · rw [cmul_eq (2 * a), cmul_eq a b, ih (b / 2) (by omega), two_mul_xor]
      split <;> simp

theorem half_xor (a : Nat) : (a % 2) ^^^ 2 * (a / 2) = a := by
  apply Nat.eq_of_testBit_eq; intro i
  cases i with
  | zero => simp [Nat.testBit_zero, xor_mod2]
  | succ i =>
    rw [Nat.testBit_succ, Nat.testBit_succ, xor_div2]
    simp

theorem cmul_xor (a b c : Nat) : cmul a (b ^^^ c) = cmul a b ^^^ cmul a c := by
  induction b using Nat.strongRecOn generalizing c with
  | _ b ih =>
    by_cases hb : b = 0
    · subst hb; simp [cmul_zero]
    · rw [cmul_eq a (b ^^^ c), cmul_eq a b, cmul_eq a c, xor_div2, ih (b / 2) (by omega), two_mul_xor, xor_mod2]
      rcases Nat.mod_two_eq_zero_or_one b with h1 | h1 <;> rcases Nat.mod_two_eq_zero_or_one c with h2 | h2
      · simp [h1, h2]
      · simp [h1, h2]; ac_rfl
      · simp [h1, h2]; ac_rfl
      · simp only [h1, h2]
        simp
        rw [show a ^^^ 2 * cmul a (b / 2) ^^^ (a ^^^ 2 * cmul a (c / 2)) = (a ^^^ a) ^^^ (2 * cmul a (b / 2) ^^^ 2 * cmul a (c / 2)) from by ac_rfl]
        simp

theorem one_cmul (b : Nat) : cmul 1 b = b := by
  induction b using Nat.strongRecOn with
  | _ b ih =>
    by_cases hb : b = 0
    · subst hb; rfl
    · rw [cmul_eq, ih (b / 2) (by omega)]
      have := half_xor b
      rcases Nat.mod_two_eq_zero_or_one b with h1 | h1 <;> simp [h1] at this ⊢ <;> exact this

theorem cmul_comm (a b : Nat) : cmul a b = cmul b a := by
  induction a using Nat.strongRecOn generalizing b with
  | _ a ih =>
    by_cases ha : a = 0
    · subst ha; rw [zero_cmul, cmul_zero]
    · conv => lhs; rw [← half_xor a, xor_cmul, two_mul_cmul, ih (a / 2) (by omega)]
      rw [cmul_eq b a]
      rcases Nat.mod_two_eq_zero_or_one a with h1 | h1 <;> simp [h1, zero_cmul, one_cmul]

theorem cmul_assoc (a b c : Nat) : cmul (cmul a b) c = cmul a (cmul b c) := by
  induction c using Nat.strongRecOn with
  | _ c ih =>
    by_cases hc : c = 0
    · subst hc; simp [cmul_zero]
    · rw [cmul_eq (cmul a b) c, cmul_eq b c, cmul_xor, cmul_two_mul, ih (c / 2) (by omega)]
      split <;> simp [cmul_zero]

instance : Std.Associative cmul := ⟨cmul_assoc⟩
instance : Std.Commutative cmul := ⟨cmul_comm⟩

/-! bit length -/
def bl : Nat → Nat := fun n => if n = 0 then 0 else n.log2 + 1

theorem bl_le_iff (a n : Nat) : bl a ≤ n ↔ a < 2 ^ n := by
  unfold bl
  split
  · subst a; simp; exact Nat.two_pow_pos n
  · rename_i h; rw [← Nat.log2_lt h]; omega
theorem lt_bl_iff (a n : Nat) : n < bl a ↔ 2 ^ n ≤ a := by
  have := bl_le_iff a n; omega
theorem lt_pow_bl (a : Nat) : a < 2 ^ bl a := (bl_le_iff a _).1 (Nat.le_refl _)
theorem pow_bl_le (a : Nat) (h : a ≠ 0) : 2 ^ (bl a - 1) ≤ a := by
  apply (lt_bl_iff a _).1
  have : 0 < bl a := (lt_bl_iff a 0).2 (by simp; omega)
  omega
theorem bl_zero : bl 0 = 0 := rfl
theorem bl_pos (a : Nat) (h : a ≠ 0) : 0 < bl a := (lt_bl_iff a 0).2 (by simp; omega)
theorem bl_eq (a n : Nat) (h1 : 2 ^ n ≤ a) (h2 : a < 2 ^ (n + 1)) : bl a = n + 1 := by
  have := (lt_bl_iff a n).2 h1
  have := (bl_le_iff a (n+1)).2 h2
  omega
theorem bl_mono (a b : Nat) (h : a ≤ b) : bl a ≤ bl b := (bl_le_iff _ _).2 (Nat.lt_of_le_of_lt h (lt_pow_bl b))
theorem lt_of_bl_lt (a b : Nat) (h : bl a < bl b) : a < b := by
  have := bl_mono b a; omega
theorem bl_two_mul (a : Nat) (h : a ≠ 0) : bl (2 * a) = bl a + 1 := by
  obtain ⟨n, hn⟩ : ∃ n, bl a = n + 1 := ⟨bl a - 1, by have := bl_pos a h; omega⟩
  rw [hn]
  have h1 := (lt_bl_iff a n).1 (by omega)
  have h2 := (bl_le_iff a (n+1)).1 (by omega)
  exact bl_eq _ _ (by rw [Nat.pow_succ]; omega) (by rw [Nat.pow_succ]; omega)
theorem testBit_bl (a n : Nat) (h : bl a = n + 1) : a.testBit n = true := by
  have h1 := (lt_bl_iff a n).1 (by omega)
  have h2 := (bl_le_iff a (n+1)).1 (by omega)
  rw [Nat.testBit_eq_decide_div_mod_eq]
  have : a / 2 ^ n = 1 := by
    apply Nat.div_eq_of_lt_le
    · omega
    · rw [Nat.pow_succ] at h2; omega
  simp [this]
theorem bl_of_testBit (a n : Nat) (h : a.testBit n = true) (hlt : a < 2 ^ (n+1)) : bl a = n + 1 := by
  refine bl_eq _ _ (Nat.ge_two_pow_of_testBit h) hlt
theorem bl_xor_le (a b n : Nat) (ha : bl a ≤ n) (hb : bl b ≤ n) : bl (a ^^^ b) ≤ n := by
  rw [bl_le_iff] at *; exact Nat.xor_lt_two_pow ha hb
/-- the two highest bits cancel -/
theorem bl_xor_lt (a b n : Nat) (ha : bl a = n + 1) (hb : bl b = n + 1) : bl (a ^^^ b) ≤ n := by
  have h : bl (a ^^^ b) ≤ n + 1 := bl_xor_le _ _ _ (by omega) (by omega)
  by_cases e : bl (a ^^^ b) = n + 1
  · have := testBit_bl _ _ e
    rw [Nat.testBit_xor, testBit_bl _ _ ha, testBit_bl _ _ hb] at this
    simp at this
  · omega
theorem bl_xor_eq (a b : Nat) (h : bl a < bl b) : bl (a ^^^ b) = bl b := by
  obtain ⟨n, hn⟩ : ∃ n, bl b = n + 1 := ⟨bl b - 1, by omega⟩
  have h1 : a < 2 ^ n := (bl_le_iff a n).1 (by omega)
  rw [hn]
  refine bl_of_testBit _ _ ?_ ?_
  · rw [Nat.testBit_xor, testBit_bl _ _ hn, Nat.testBit_lt_two_pow h1]; rfl
  · exact (bl_le_iff _ _).1 (bl_xor_le _ _ _ (by omega) (by omega))

theorem bl_cmul (a b : Nat) (ha : a ≠ 0) (hb : b ≠ 0) : bl (cmul a b) + 1 = bl a + bl b := by
  induction b using Nat.strongRecOn with
  | _ b ih =>
    have hpa := bl_pos a ha
    by_cases h1 : b = 1
    · subst h1; rw [cmul_one]; have : bl 1 = 1 := by decide
      omega
    · have h2 : b / 2 ≠ 0 := by omega
      have IH := ih (b / 2) (by omega) h2
      have hb2 : bl b = bl (b / 2) + 1 := by
        obtain ⟨n, hn⟩ : ∃ n, bl (b/2) = n + 1 := ⟨bl (b/2) - 1, by have := bl_pos _ h2; omega⟩
        have g1 := (lt_bl_iff (b/2) n).1 (by omega)
        have g2 := (bl_le_iff (b/2) (n+1)).1 (by omega)
        rw [hn]
        exact bl_eq _ _ (by rw [Nat.pow_succ]; omega) (by rw [Nat.pow_succ]; omega)
      have hpb := bl_pos _ h2
      have hne : cmul a (b / 2) ≠ 0 := by
        intro h0; rw [h0, bl_zero] at IH; omega
      rw [cmul_eq]
      have e2 := bl_two_mul _ hne
      split
      · rw [bl_xor_eq _ _ (by omega)]; omega
      · simp; omega
theorem cmul_ne_zero (a b : Nat) (ha : a ≠ 0) (hb : b ≠ 0) : cmul a b ≠ 0 := by
  intro h; have := bl_cmul a b ha hb; rw [h, bl_zero] at this
  have := bl_pos a ha; have := bl_pos b hb; omega
theorem cmul_pow (a n : Nat) : cmul a (2 ^ n) = a * 2 ^ n := by
  induction n with
  | zero => simp [cmul_one]
  | succ n ih => rw [show 2 ^ (n+1) = 2 * 2 ^ n from by rw [Nat.pow_succ]; omega, cmul_two_mul, ih, Nat.mul_left_comm]
theorem bl_shift (a n : Nat) (ha : a ≠ 0) : bl (a * 2 ^ n) = bl a + n := by
  induction n with
  | zero => simp
  | succ n ih =>
    rw [Nat.pow_succ, show a * (2 ^ n * 2) = 2 * (a * 2 ^ n) from by ac_rfl, bl_two_mul _ (by have := Nat.two_pow_pos n; exact Nat.mul_ne_zero ha (by omega)), ih]; omega

/-! divisibility and remainder -/
def cdvd (p a : Nat) : Prop := ∃ k, a = cmul p k
theorem cdvd_zero (p : Nat) : cdvd p 0 := ⟨0, (cmul_zero p).symm⟩
theorem cdvd_refl (p : Nat) : cdvd p p := ⟨1, (cmul_one p).symm⟩
theorem cdvd_xor {p a b : Nat} (h1 : cdvd p a) (h2 : cdvd p b) : cdvd p (a ^^^ b) := by
  obtain ⟨k, rfl⟩ := h1; obtain ⟨l, rfl⟩ := h2; exact ⟨k ^^^ l, (cmul_xor _ _ _).symm⟩
theorem cdvd_mul {p a : Nat} (b : Nat) (h1 : cdvd p a) : cdvd p (cmul a b) := by
  obtain ⟨k, rfl⟩ := h1; exact ⟨cmul k b, cmul_assoc _ _ _⟩
theorem cdvd_trans {p q a : Nat} (h : cdvd p q) (g : cdvd q a) : cdvd p a := by
  obtain ⟨k, rfl⟩ := h; obtain ⟨l, rfl⟩ := g; exact ⟨cmul k l, cmul_assoc _ _ _⟩
theorem cdvd_small {p a : Nat} (h : cdvd p a) (hlt : bl a < bl p) : a = 0 := by
  obtain ⟨k, rfl⟩ := h
  by_cases hk : k = 0
  · subst hk; exact cmul_zero _
  · by_cases hp : p = 0
    · subst hp; rw [bl_zero] at hlt; omega
    · have := bl_cmul p k hp hk; have := bl_pos k hk; omega

/-- one step of the division: the highest bit is cleared -/
def cstep (p q : Nat) : Nat := p ^^^ q * 2 ^ (bl p - bl q)
theorem cstep_lt (p q : Nat) (hq : q ≠ 0) (h : bl q ≤ bl p) : bl (cstep p q) < bl p := by
  have h0 := bl_pos q hq
  obtain ⟨n, hn⟩ : ∃ n, bl p = n + 1 := ⟨bl p - 1, by omega⟩
  have := bl_shift q (bl p - bl q) hq
  have := bl_xor_lt p (q * 2 ^ (bl p - bl q)) n hn (by omega)
  unfold cstep; omega
def cmodF : Nat → Nat → Nat → Nat
  | 0, p, _ => p
  | n + 1, p, q => if bl q ≤ bl p then cmodF n (cstep p q) q else p
/-- the remainder -/
def cmod (p q : Nat) : Nat := cmodF (bl p) p q
theorem cmodF_lt (n p q : Nat) (hq : q ≠ 0) (h : bl p < bl q + n) : bl (cmodF n p q) < bl q := by
  induction n generalizing p with
  | zero => simp [cmodF]; omega
  | succ n ih =>
    simp only [cmodF]
    split
    · rename_i h1; have := cstep_lt p q hq h1
      exact ih _ (by omega)
    · omega
theorem cmodF_dvd (n p q : Nat) : cdvd q (p ^^^ cmodF n p q) := by
  induction n generalizing p with
  | zero => simp [cmodF]; exact cdvd_zero _
  | succ n ih =>
    simp only [cmodF]
    split
    · have := cdvd_xor (ih (cstep p q)) (⟨2 ^ (bl p - bl q), (cmul_pow q _).symm⟩ : cdvd q (q * 2 ^ (bl p - bl q)))
      rw [show cstep p q ^^^ cmodF n (cstep p q) q ^^^ q * 2 ^ (bl p - bl q) = (cstep p q ^^^ q * 2 ^ (bl p - bl q)) ^^^ cmodF n (cstep p q) q from by ac_rfl] at this
      rw [show cstep p q ^^^ q * 2 ^ (bl p - bl q) = p from by unfold cstep; rw [Nat.xor_assoc]; simp] at this
      exact this
    · simp; exact cdvd_zero _
theorem cmod_lt (p q : Nat) (hq : q ≠ 0) : bl (cmod p q) < bl q :=
  cmodF_lt _ _ _ hq (by have := bl_pos q hq; omega)
theorem cmod_dvd (p q : Nat) : cdvd q (p ^^^ cmod p q) := cmodF_dvd _ _ _
theorem cmod_unique (p q r : Nat) (h1 : cdvd q (p ^^^ r)) (h2 : bl r < bl q) : r = cmod p q := by
  have hq : q ≠ 0 := by intro h; subst h; rw [bl_zero] at h2; omega
  have h3 := cdvd_xor h1 (cmod_dvd p q)
  rw [show p ^^^ r ^^^ (p ^^^ cmod p q) = (p ^^^ p) ^^^ (r ^^^ cmod p q) from by ac_rfl] at h3
  simp at h3
  have h4 := cdvd_small h3 (Nat.lt_of_le_of_lt (bl_xor_le r (cmod p q) (bl q - 1) (by omega) (by have := cmod_lt p q hq; omega)) (by omega))
  have h5 := congrArg (fun x => x ^^^ cmod p q) h4
  simpa [Nat.xor_assoc] using h5
theorem cmod_eq_zero (p q : Nat) (hq : q ≠ 0) : cmod p q = 0 ↔ cdvd q p := by
  constructor
  · intro h; have := cmod_dvd p q; rw [h] at this; simpa using this
  · intro h; exact (cmod_unique p q 0 (by simpa using h) (by rw [bl_zero]; exact bl_pos q hq)).symm
theorem cmod_small (p q : Nat) (h : bl p < bl q) : cmod p q = p :=
  (cmod_unique p q p (by simp; exact cdvd_zero _) h).symm

/-! irreducible -/
def Irr (p : Nat) : Prop := 2 ≤ bl p ∧ ∀ q, 2 ≤ q → 2 * (bl q - 1) ≤ bl p - 1 → ¬ cdvd q p
theorem two_le_of (q : Nat) (h0 : q ≠ 0) (h1 : q ≠ 1) : 2 ≤ q := by omega
theorem euclid (p a b : Nat) (hp : Irr p) (h : cdvd p (cmul a b)) : cdvd p a ∨ cdvd p b := by
  by_cases hpa : cdvd p a
  · exact .inl hpa
  right
  have hp0 : p ≠ 0 := by intro h; subst h; have := hp.1; rw [bl_zero] at this; omega
  have ha0 : a ≠ 0 := by intro h; subst h; exact hpa (cdvd_zero _)
  -- the least c with p | c * b
  have key : ∀ n, ∀ c, c < n → c ≠ 0 → cdvd p (cmul c b) → cdvd p b := by
    intro n
    induction n with
    | zero => intro c hc; omega
    | succ n ih =>
      intro c hc hc0 hcb
      -- reduce p by c
      have red : ∀ x, cdvd p (cmul x b) → cdvd p b ∨ cdvd c x := by
        intro x hx
        by_cases hr : cmod x c = 0
        · exact .inr ((cmod_eq_zero _ _ hc0).1 hr)
        · left
          refine ih (cmod x c) ?_ hr ?_
          · have := lt_of_bl_lt _ _ (cmod_lt x c hc0); omega
          · obtain ⟨k, hk⟩ := cmod_dvd x c
            have e : cmod x c = x ^^^ cmul c k := by rw [← hk, ← Nat.xor_assoc]; simp
            rw [e, xor_cmul]
            refine cdvd_xor hx ?_
            rw [show cmul (cmul c k) b = cmul (cmul c b) k from by ac_rfl]
            exact cdvd_mul _ hcb
      rcases red p ⟨b, rfl⟩ with h1 | h1
      · exact h1
      rcases red a h with h2 | h2
      · exact h2
      obtain ⟨k, hk⟩ := h1
      have hk0 : k ≠ 0 := by intro h; subst h; rw [cmul_zero] at hk; exact hp0 hk
      have hbl := bl_cmul c k hc0 hk0
      rw [← hk] at hbl
      by_cases c1 : c = 1
      · subst c1; rw [one_cmul] at hcb; exact hcb
      by_cases k1 : k = 1
      · subst k1; rw [cmul_one] at hk; subst hk; exact absurd h2 hpa
      exfalso
      by_cases hh : bl c ≤ bl k
      · exact hp.2 c (two_le_of c hc0 c1) (by omega) ⟨k, hk⟩
      · exact hp.2 k (two_le_of k hk0 k1) (by omega) ⟨c, by rw [cmul_comm]; exact hk⟩
  exact key (a + 1) a (by omega) ha0 h
end Go.Proofs.Ythpcneeidhmdkaa
namespace Go.Proofs.Ythpcneeidhmdkaa
/-- a finite field: the operations, their laws and the list of the elements -/
class Fl (K : Type) where
  add : K → K → K
  mul : K → K → K
  neg : K → K
  zero : K
  one : K
  add_assoc : ∀ a b c, add (add a b) c = add a (add b c)
  add_comm : ∀ a b, add a b = add b a
  zero_add : ∀ a, add zero a = a
  neg_add : ∀ a, add (neg a) a = zero
  mul_assoc : ∀ a b c, mul (mul a b) c = mul a (mul b c)
  mul_comm : ∀ a b, mul a b = mul b a
  one_mul : ∀ a, mul one a = a
  add_mul : ∀ a b c, mul (add a b) c = add (mul a c) (mul b c)
  one_ne : one ≠ zero
  nzd : ∀ a b, mul a b = zero → a = zero ∨ b = zero
  dec : DecidableEq K
  els : List K
  nodup : els.Nodup
  mem : ∀ a, a ∈ els

namespace Fl
variable {K : Type} [Fl K]
instance : Add K := ⟨Fl.add⟩
instance : Mul K := ⟨Fl.mul⟩
instance : Neg K := ⟨Fl.neg⟩
instance : Sub K := ⟨fun a b => a + -b⟩
instance : Zero K := ⟨Fl.zero⟩
instance : One K := ⟨Fl.one⟩
instance : DecidableEq K := Fl.dec
def npow (a : K) : Nat → K
  | 0 => 1
  | n + 1 => npow a n * a
instance : HPow K Nat K := ⟨npow⟩
instance : Std.Associative (α := K) (· + ·) := ⟨Fl.add_assoc⟩
instance : Std.Commutative (α := K) (· + ·) := ⟨Fl.add_comm⟩
instance : Std.Associative (α := K) (· * ·) := ⟨Fl.mul_assoc⟩
instance : Std.Commutative (α := K) (· * ·) := ⟨Fl.mul_comm⟩
end Fl
open Fl
variable {K : Type} [Fl K]
theorem fadd_assoc (a b c : K) : a + b + c = a + (b + c) := Fl.add_assoc a b c
theorem fadd_comm (a b : K) : a + b = b + a := Fl.add_comm a b
theorem fzero_add (a : K) : 0 + a = a := Fl.zero_add a
theorem fadd_zero (a : K) : a + 0 = a := by rw [fadd_comm]; exact fzero_add a
theorem fneg_add (a : K) : -a + a = 0 := Fl.neg_add a
theorem fadd_neg (a : K) : a + -a = 0 := by rw [fadd_comm]; exact fneg_add a
theorem fsub_def (a b : K) : a - b = a + -b := rfl
theorem fmul_assoc (a b c : K) : a * b * c = a * (b * c) := Fl.mul_assoc a b c
theorem fmul_comm (a b : K) : a * b = b * a := Fl.mul_comm a b
theorem fone_mul (a : K) : 1 * a = a := Fl.one_mul a
theorem fmul_one (a : K) : a * 1 = a := by rw [fmul_comm]; exact fone_mul a
theorem fadd_mul (a b c : K) : (a + b) * c = a * c + b * c := Fl.add_mul a b c
theorem fmul_add (a b c : K) : a * (b + c) = a * b + a * c := by rw [fmul_comm, fadd_mul, fmul_comm b, fmul_comm c]
theorem fone_ne : (1 : K) ≠ 0 := Fl.one_ne
theorem fnzd {a b : K} (h : a * b = 0) : a = 0 ∨ b = 0 := Fl.nzd a b h
theorem fadd_left_cancel {a b c : K} (h : a + b = a + c) : b = c := by
  have := congrArg (fun x => -a + x) h
  simpa [← fadd_assoc, fneg_add, fzero_add] using this
theorem fadd_right_cancel {a b c : K} (h : b + a = c + a) : b = c := by
  rw [fadd_comm b, fadd_comm c] at h; exact fadd_left_cancel h
theorem fzero_mul (a : K) : 0 * a = 0 := by
  have h : 0 * a + 0 * a = 0 * a + 0 := by rw [← fadd_mul, fadd_zero, fadd_zero]
  exact fadd_left_cancel h
theorem fmul_zero (a : K) : a * 0 = 0 := by rw [fmul_comm]; exact fzero_mul a
theorem fneg_mul (a b : K) : -a * b = -(a * b) := by
  apply fadd_right_cancel (a := a * b); rw [← fadd_mul, fneg_add, fneg_add, fzero_mul]
theorem fmul_neg (a b : K) : a * -b = -(a * b) := by rw [fmul_comm, fneg_mul, fmul_comm]
theorem fneg_neg (a : K) : - -a = a := by
  apply fadd_right_cancel (a := -a); rw [fneg_add, fadd_neg]
theorem fneg_zero : (-0 : K) = 0 := by
  apply fadd_right_cancel (a := (0 : K)); rw [fneg_add, fadd_zero]
theorem fneg_add_distrib (a b : K) : -(a + b) = -a + -b := by
  apply fadd_right_cancel (a := a + b)
  rw [fneg_add, show -a + -b + (a + b) = (-a + a) + (-b + b) from by ac_rfl, fneg_add, fneg_add, fadd_zero]
theorem fsub_self (a : K) : a - a = 0 := fadd_neg a
theorem fsub_zero (a : K) : a - 0 = a := by rw [fsub_def, fneg_zero, fadd_zero]
theorem fzero_sub (a : K) : 0 - a = -a := fzero_add _
theorem fsub_add_cancel (a b : K) : a - b + b = a := by rw [fsub_def, fadd_assoc, fneg_add, fadd_zero]
theorem fadd_sub_cancel (a b : K) : a + b - b = a := by rw [fsub_def, fadd_assoc, fadd_neg, fadd_zero]
theorem fsub_eq_zero {a b : K} : a - b = 0 ↔ a = b := by
  constructor
  · intro h; have := fsub_add_cancel a b; rw [h, fzero_add] at this; exact this.symm
  · intro h; subst h; exact fsub_self a
theorem fsub_mul (a b c : K) : (a - b) * c = a * c - b * c := by rw [fsub_def, fadd_mul, fneg_mul]; rfl
theorem fmul_sub (a b c : K) : a * (b - c) = a * b - a * c := by rw [fsub_def, fmul_add, fmul_neg]; rfl
theorem feq_sub_iff {a b c : K} : a = b - c ↔ a + c = b := by
  constructor
  · intro h; rw [h, fsub_add_cancel]
  · intro h; rw [← h, fadd_sub_cancel]
theorem fmul_left_cancel {a b c : K} (ha : a ≠ 0) (h : a * b = a * c) : b = c := by
  have h2 : a * (b - c) = 0 := by rw [fmul_sub, h, fsub_self]
  rcases fnzd h2 with h3 | h3
  · exact absurd h3 ha
  · exact fsub_eq_zero.1 h3
theorem fmul_ne {a b : K} (ha : a ≠ 0) (hb : b ≠ 0) : a * b ≠ 0 := by
  intro h; rcases fnzd h with h | h
  · exact ha h
  · exact hb h
theorem fmul_right_cancel {a b c : K} (ha : a ≠ 0) (h : b * a = c * a) : b = c := by
  rw [fmul_comm b, fmul_comm c] at h; exact fmul_left_cancel ha h

/-! powers -/
theorem fpow_zero (a : K) : a ^ 0 = 1 := rfl
theorem fpow_succ (a : K) (n : Nat) : a ^ (n + 1) = a ^ n * a := rfl
theorem fpow_one (a : K) : a ^ 1 = a := by rw [fpow_succ, fpow_zero, fone_mul]
theorem fpow_add (a : K) (m n : Nat) : a ^ (m + n) = a ^ m * a ^ n := by
  induction n with
  | zero => rw [fpow_zero, fmul_one]; rfl
  | succ n ih => rw [← Nat.add_assoc, fpow_succ, ih, fpow_succ, fmul_assoc]
theorem fone_pow (n : Nat) : (1 : K) ^ n = 1 := by
  induction n with
  | zero => rfl
  | succ n ih => rw [fpow_succ, ih, fone_mul]
theorem fpow_mul (a : K) (m n : Nat) : a ^ (m * n) = (a ^ m) ^ n := by
  induction n with
  | zero => rfl
  | succ n ih => rw [Nat.mul_succ, fpow_add, ih, fpow_succ]
theorem fmul_pow (a b : K) (n : Nat) : (a * b) ^ n = a ^ n * b ^ n := by
  induction n with
  | zero => rw [fpow_zero, fpow_zero, fpow_zero, fone_mul]
  | succ n ih => rw [fpow_succ, fpow_succ, fpow_succ, ih]; ac_rfl
theorem fzero_pow (n : Nat) (h : n ≠ 0) : (0 : K) ^ n = 0 := by
  obtain ⟨m, rfl⟩ : ∃ m, n = m + 1 := ⟨n - 1, by omega⟩
  rw [fpow_succ, fmul_zero]
theorem fpow_ne {a : K} (ha : a ≠ 0) (n : Nat) : a ^ n ≠ 0 := by
  induction n with
  | zero => exact fone_ne
  | succ n ih => rw [fpow_succ]; exact fmul_ne ih ha

/-! the number of elements, Fermat -/
def card (K : Type) [Fl K] : Nat := (els : List K).length
def units (K : Type) [Fl K] : List K := (els : List K).filter (fun a => a ≠ 0)
theorem mem_units {a : K} : a ∈ units K ↔ a ≠ 0 := by
  unfold units; simp [Fl.mem]
theorem nodup_units : (units K).Nodup := Fl.nodup.filter _
theorem els_perm : (els : List K).Perm (0 :: units K) := by
  refine (List.perm_ext_iff_of_nodup Fl.nodup ?_).2 ?_
  · rw [List.nodup_cons]; exact ⟨by rw [mem_units]; simp, nodup_units⟩
  · intro a; simp only [Fl.mem, List.mem_cons, mem_units, true_iff]
    by_cases h : a = 0
    · exact .inl h
    · exact .inr h
theorem units_length : (units K).length + 1 = card K := by
  have := (els_perm (K := K)).length_eq; simp only [List.length_cons] at this; exact this.symm
theorem card_ge : 2 ≤ card K := by
  rw [← units_length]
  have h : (1 : K) ∈ units K := mem_units.2 fone_ne
  have := List.length_pos_of_mem h; omega
def prd : List K → K
  | [] => 1
  | a :: l => a * prd l
theorem prd_perm {l m : List K} (h : l.Perm m) : prd l = prd m := by
  induction h with
  | nil => rfl
  | cons x _ ih => simp only [prd, ih]
  | swap x y l => simp only [prd]; ac_rfl
  | trans _ _ i1 i2 => rw [i1, i2]
theorem prd_map_mul (a : K) (l : List K) : prd (l.map (a * ·)) = a ^ l.length * prd l := by
  induction l with
  | nil => simp only [List.map_nil, prd, List.length_nil, fpow_zero, fone_mul]
  | cons x l ih => simp only [List.map_cons, prd, ih, List.length_cons, fpow_succ]; ac_rfl
theorem prd_ne {l : List K} (h : ∀ a ∈ l, a ≠ 0) : prd l ≠ 0 := by
  induction l with
  | nil => exact fone_ne
  | cons x l ih => exact fmul_ne (h x (by simp)) (ih fun a ha => h a (by simp [ha]))
theorem nodup_map {α β : Type} {f : α → β} {l : List α} (hf : ∀ a ∈ l, ∀ b ∈ l, f a = f b → a = b) (h : l.Nodup) : (l.map f).Nodup := by
  induction l with
  | nil => simp
  | cons x l ih =>
    rw [List.nodup_cons] at h
    rw [List.map_cons, List.nodup_cons]
    refine ⟨?_, ih (fun a ha b hb => hf a (by simp [ha]) b (by simp [hb])) h.2⟩
    intro hm
    obtain ⟨y, hy, e⟩ := List.mem_map.1 hm
    have := hf y (by simp [hy]) x (by simp) e
    subst this; exact h.1 hy
/-- a sublist of the same length without doubles has the same elements -/
theorem length_le_of_subset {α : Type} {l m : List α} (hl : l.Nodup) (h : ∀ a ∈ l, a ∈ m) : l.length ≤ m.length := by
  induction l generalizing m with
  | nil => simp
  | cons x l ih =>
    rw [List.nodup_cons] at hl
    obtain ⟨s, t, rfl⟩ := List.append_of_mem (h x (by simp))
    have := ih (m := s ++ t) hl.2 (fun a ha => by
      have h1 := h a (by simp [ha])
      simp only [List.mem_append, List.mem_cons] at h1 ⊢
      rcases h1 with h1 | h1 | h1
      · exact .inl h1
      · subst h1; exact absurd ha hl.1
      · exact .inr h1)
    simp only [List.length_append, List.length_cons] at this ⊢; omega
theorem perm_of_subset {α : Type} {l m : List α} (hl : l.Nodup) (h : ∀ a ∈ l, a ∈ m) (hlen : m.length ≤ l.length) : l.Perm m := by
  induction l generalizing m with
  | nil => have : m = [] := List.length_eq_zero_iff.1 (by simpa using hlen)
           subst this; exact List.Perm.refl _
  | cons x l ih =>
    rw [List.nodup_cons] at hl
    obtain ⟨s, t, rfl⟩ := List.append_of_mem (h x (by simp))
    have := ih (m := s ++ t) hl.2 (fun a ha => by
      have h1 := h a (by simp [ha])
      simp only [List.mem_append, List.mem_cons] at h1 ⊢
      rcases h1 with h1 | h1 | h1
      · exact .inl h1
      · subst h1; exact absurd ha hl.1
      · exact .inr h1) (by simp only [List.length_append, List.length_cons] at hlen ⊢; omega)
    exact (this.cons x).trans List.perm_middle.symm
theorem fermat {a : K} (ha : a ≠ 0) : a ^ (card K - 1) = 1 := by
  have hp : ((units K).map (a * ·)).Perm (units K) := by
    refine perm_of_subset (nodup_map (fun x _ y _ e => fmul_left_cancel ha e) nodup_units) ?_ (by simp)
    intro b hb
    obtain ⟨x, hx, rfl⟩ := List.mem_map.1 hb
    exact mem_units.2 (fmul_ne ha (mem_units.1 hx))
  have h1 := prd_perm hp
  rw [prd_map_mul] at h1
  have h2 : prd (units K) ≠ 0 := prd_ne fun x hx => mem_units.1 hx
  have h3 : (units K).length = card K - 1 := by have := units_length (K := K); omega
  rw [← h3]
  exact fmul_right_cancel h2 (by rw [h1, fone_mul])
theorem fpow_card (a : K) : a ^ card K = a := by
  by_cases ha : a = 0
  · subst ha; exact fzero_pow _ (by have := card_ge (K := K); omega)
  · have := card_ge (K := K)
    rw [show card K = (card K - 1) + 1 from by omega, fpow_succ, fermat ha, fone_mul]
/-! inverse -/
def finv (a : K) : K := a ^ (card K - 2)
theorem fmul_inv {a : K} (ha : a ≠ 0) : a * finv a = 1 := by
  have h := fermat ha
  have := card_ge (K := K)
  rw [show card K - 1 = (card K - 2) + 1 from by omega, fpow_succ] at h
  rw [fmul_comm]; exact h
theorem finv_mul {a : K} (ha : a ≠ 0) : finv a * a = 1 := by rw [fmul_comm, fmul_inv ha]
theorem finv_ne {a : K} (ha : a ≠ 0) : finv a ≠ 0 := fpow_ne ha _

/-! the order -/
theorem exists_least {P : Nat → Prop} (h : ∃ n, P n) : ∃ n, P n ∧ ∀ m, m < n → ¬ P m := by
  obtain ⟨n, hn⟩ := h
  induction n using Nat.strongRecOn with
  | _ n ih =>
    by_cases hx : ∃ m, m < n ∧ P m
    · obtain ⟨m, hm, hp⟩ := hx; exact ih m hm hp
    · exact ⟨n, hn, fun m hm hp => hx ⟨m, hm, hp⟩⟩
/-- k is the order of a -/
def IsOrd (a : K) (k : Nat) : Prop := 1 ≤ k ∧ a ^ k = 1 ∧ ∀ m, 1 ≤ m → m < k → a ^ m ≠ 1
theorem isOrd_exists {a : K} (ha : a ≠ 0) : ∃ k, IsOrd a k := by
  obtain ⟨k, ⟨h1, h2⟩, h3⟩ := exists_least (P := fun k => 1 ≤ k ∧ a ^ k = 1) ⟨card K - 1, by have := card_ge (K := K); omega, fermat ha⟩
  exact ⟨k, h1, h2, fun m hm hlt he => h3 m hlt ⟨hm, he⟩⟩
theorem IsOrd.unique {a : K} {k l : Nat} (h : IsOrd a k) (g : IsOrd a l) : k = l := by
  by_cases h1 : k < l
  · exact absurd h.2.1 (g.2.2 k h.1 h1)
  · by_cases h2 : l < k
    · exact absurd g.2.1 (h.2.2 l g.1 h2)
    · omega
theorem IsOrd.ne {a : K} {k : Nat} (h : IsOrd a k) : a ≠ 0 := by
  intro e; subst e; have := h.2.1; rw [fzero_pow _ (by have := h.1; omega)] at this; exact fone_ne this.symm
theorem fpow_mod {a : K} {k : Nat} (h : a ^ k = 1) (m : Nat) : a ^ m = a ^ (m % k) := by
  conv => lhs; rw [← Nat.div_add_mod m k, fpow_add, fpow_mul, h, fone_pow, fone_mul]
theorem IsOrd.dvd {a : K} {k m : Nat} (h : IsOrd a k) : a ^ m = 1 ↔ k ∣ m := by
  constructor
  · intro e
    rw [fpow_mod h.2.1] at e
    by_cases h0 : m % k = 0
    · exact Nat.dvd_of_mod_eq_zero h0
    · exact absurd e (h.2.2 _ (by omega) (Nat.mod_lt _ (by have := h.1; omega)))
  · rintro ⟨c, rfl⟩; rw [fpow_mul, h.2.1, fone_pow]
theorem IsOrd.dvd_card {a : K} {k : Nat} (h : IsOrd a k) : k ∣ card K - 1 := h.dvd.1 (fermat h.ne)
theorem IsOrd.le {a : K} {k : Nat} (h : IsOrd a k) : k ≤ card K - 1 :=
  Nat.le_of_dvd (by have := card_ge (K := K); omega) h.dvd_card
theorem IsOrd.inj {a : K} {k i j : Nat} (h : IsOrd a k) (hi : i < k) (hj : j < k) (e : a ^ i = a ^ j) : i = j := by
  have aux : ∀ i j, i ≤ j → i < k → j < k → a ^ i = a ^ j → i = j := by
    intro i j hij hi hj e
    have e2 : a ^ i * a ^ (j - i) = a ^ i * 1 := by rw [← fpow_add, fmul_one, show i + (j - i) = j from by omega]; exact e.symm
    have e3 := fmul_left_cancel (fpow_ne h.ne i) e2
    by_cases h0 : j - i = 0
    · omega
    · exact absurd e3 (h.2.2 _ (by omega) (by omega))
  rcases Nat.le_total i j with hl | hl
  · exact aux i j hl hi hj e
  · exact (aux j i hl hj hi e.symm).symm
theorem IsOrd.pow {a : K} {d e : Nat} (h : IsOrd a (d * e)) (hd : 1 ≤ d) : IsOrd (a ^ d) e := by
  refine ⟨?_, by rw [← fpow_mul]; exact h.2.1, ?_⟩
  · rcases Nat.eq_zero_or_pos e with h0 | h0
    · subst h0; have := h.1; omega
    · exact h0
  · intro m hm hlt he
    rw [← fpow_mul] at he
    have : d * m < d * e := Nat.mul_lt_mul_of_pos_left hlt hd
    exact h.2.2 _ (Nat.mul_pos hd hm) this he
theorem IsOrd.mul {a b : K} {m k : Nat} (ha : IsOrd a m) (hb : IsOrd b k) (hc : Nat.Coprime m k) : IsOrd (a * b) (m * k) := by
  have hmk : 1 ≤ m * k := Nat.mul_pos ha.1 hb.1
  have h1 : (a * b) ^ (m * k) = 1 := by
    rw [fmul_pow, fpow_mul, ha.2.1, fone_pow, Nat.mul_comm, fpow_mul, hb.2.1, fone_pow, fone_mul]
  refine ⟨hmk, h1, ?_⟩
  intro j hj hlt he
  have e1 : k ∣ j := by
    have : b ^ (m * j) = 1 := by
      have := congrArg (fun x => x ^ m) he
      simp only [fone_pow, ← fpow_mul] at this
      rw [fmul_pow, Nat.mul_comm j m, fpow_mul a, ha.2.1, fone_pow, fone_mul] at this
      exact this
    exact hc.symm.dvd_of_dvd_mul_left (hb.dvd.1 this)
  have e2 : m ∣ j := by
    have : a ^ (k * j) = 1 := by
      have := congrArg (fun x => x ^ k) he
      simp only [fone_pow, ← fpow_mul] at this
      rw [fmul_pow, Nat.mul_comm j k, fpow_mul b, hb.2.1, fone_pow, fmul_one] at this
      exact this
    exact hc.dvd_of_dvd_mul_left (ha.dvd.1 this)
  have := Nat.le_of_dvd hj (hc.mul_dvd_of_dvd_of_dvd e2 e1)
  omega
theorem strip (q : Nat) (hq : 2 ≤ q) (m : Nat) (hm : 1 ≤ m) : ∃ t r, m = q ^ t * r ∧ ¬ q ∣ r := by
  induction m using Nat.strongRecOn with
  | _ m ih =>
    by_cases h : q ∣ m
    · obtain ⟨c, rfl⟩ := h
      have hc : 1 ≤ c := by rcases Nat.eq_zero_or_pos c with h0 | h0
                            · subst h0; simp at hm
                            · exact h0
      obtain ⟨t, r, h1, h2⟩ := ih c (by have := Nat.mul_le_mul_right c hq; omega) hc
      exact ⟨t + 1, r, by rw [h1, Nat.pow_succ]; ac_rfl, h2⟩
    · exact ⟨0, m, by simp, h⟩
theorem least_factor (c : Nat) (hc : 2 ≤ c) : ∃ q, 2 ≤ q ∧ q ∣ c ∧ ∀ d, d ∣ q → d = 1 ∨ d = q := by
  obtain ⟨q, ⟨h1, h2⟩, h3⟩ := exists_least (P := fun q => 2 ≤ q ∧ q ∣ c) ⟨c, hc, Nat.dvd_refl c⟩
  refine ⟨q, h1, h2, fun d hd => ?_⟩
  have hd0 : d ≠ 0 := by intro h; subst h; have := Nat.eq_zero_of_zero_dvd hd; omega
  have hle := Nat.le_of_dvd (by omega) hd
  by_cases hd1 : d = 1
  · exact .inl hd1
  by_cases hdq : d = q
  · exact .inr hdq
  exact absurd ⟨by omega, Nat.dvd_trans hd h2⟩ (h3 d (by omega))
theorem coprime_of_prime {q r : Nat} (hq : ∀ d, d ∣ q → d = 1 ∨ d = q) (h : ¬ q ∣ r) : Nat.Coprime q r := by
  rcases hq (Nat.gcd q r) (Nat.gcd_dvd_left q r) with h1 | h1
  · exact h1
  · exact absurd (h1 ▸ Nat.gcd_dvd_right q r) h
/-- if the order of b does not divide that of a there is an element of a greater order -/
theorem greater_order {a b : K} {m k : Nat} (ha : IsOrd a m) (hb : IsOrd b k) (hn : ¬ k ∣ m) : ∃ c l, IsOrd (c : K) l ∧ m < l := by
  have hg : Nat.gcd k m ∣ k := Nat.gcd_dvd_left k m
  obtain ⟨c, hc⟩ := hg
  have hg0 : 1 ≤ Nat.gcd k m := Nat.gcd_pos_of_pos_left _ hb.1
  have hc2 : 2 ≤ c := by
    rcases Nat.lt_or_ge c 2 with h | h
    · have : c = 0 ∨ c = 1 := by omega
      rcases this with h0 | h0
      · subst h0; have := hb.1; rw [Nat.mul_zero] at hc; omega
      · subst h0; rw [Nat.mul_one] at hc; exact absurd (hc ▸ Nat.gcd_dvd_right k m) hn
    · exact h
  obtain ⟨q, hq2, hqc, hqp⟩ := least_factor c hc2
  obtain ⟨s, k', hk, hk'⟩ := strip q hq2 k hb.1
  obtain ⟨t, m', hm, hm'⟩ := strip q hq2 m ha.1
  have hst : t < s := by
    rcases Nat.lt_or_ge t s with h | h
    · exact h
    · exfalso
      have h1 : q ^ s ∣ m := by rw [hm]; exact Nat.dvd_trans (Nat.pow_dvd_pow q h) (Nat.dvd_mul_right _ _)
      have h2 : q ^ s ∣ k := by rw [hk]; exact Nat.dvd_mul_right _ _
      obtain ⟨e, he⟩ := Nat.dvd_gcd h2 h1
      have h3 : q ^ s * k' = q ^ s * (e * c) := by rw [← hk, ← Nat.mul_assoc, ← he, ← hc]
      have h4 : k' = e * c := Nat.eq_of_mul_eq_mul_left (Nat.pow_pos (by omega)) h3
      exact hk' (h4 ▸ Nat.dvd_trans hqc (Nat.dvd_mul_left c e))
  have hb' : IsOrd (b ^ k') (q ^ s) := IsOrd.pow (by rw [Nat.mul_comm, ← hk]; exact hb) (by
    rcases Nat.eq_zero_or_pos k' with h0 | h0
    · subst h0; exact absurd (Nat.dvd_zero q) hk'
    · exact h0)
  have ha' : IsOrd (a ^ (q ^ t)) m' := IsOrd.pow (by rw [← hm]; exact ha) (Nat.pow_pos (by omega))
  refine ⟨_, _, IsOrd.mul hb' ha' (Nat.Coprime.pow_left s (coprime_of_prime hqp hm')), ?_⟩
  have hm1 : 1 ≤ m' := ha'.1
  have : q ^ t < q ^ s := Nat.pow_lt_pow_right (by omega) hst
  rw [hm]
  exact Nat.mul_lt_mul_of_pos_right this hm1

/-! polynomials as lists of coefficients, the lowest first: the number of roots -/
def ev (x : K) : List K → K
  | [] => 0
  | c :: t => c + x * ev x t
/-- the quotient by X - r -/
def sd (r : K) : List K → List K
  | [] => []
  | [_] => []
  | _ :: d :: t => ev r (d :: t) :: sd r (d :: t)
theorem sd_length (r : K) (p : List K) : (sd r p).length = p.length - 1 := by
  induction p with
  | nil => rfl
  | cons c t ih => cases t with
    | nil => rfl
    | cons d t => simp only [sd, List.length_cons] at ih ⊢; omega
theorem ev_sd (r x : K) (p : List K) : ev x p = (x - r) * ev x (sd r p) + ev r p := by
  induction p with
  | nil => simp only [ev, sd, fmul_zero, fadd_zero]
  | cons c t ih => cases t with
    | nil => simp only [ev, sd, fmul_zero, fadd_zero, fzero_add]
    | cons d t =>
      have e1 : ev x (c :: d :: t) = c + x * ev x (d :: t) := rfl
      have e2 : ev r (c :: d :: t) = c + r * ev r (d :: t) := rfl
      have e3 : ev x (sd r (c :: d :: t)) = ev r (d :: t) + x * ev x (sd r (d :: t)) := rfl
      rw [e1, e2, e3, ih]
      generalize ev r (d :: t) = u
      generalize ev x (sd r (d :: t)) = v
      simp only [fmul_add, fsub_def, fadd_mul]
      rw [show x * u + -r * u + (x * (x * v) + -r * (x * v)) + (c + r * u) = (-r * u + r * u) + (c + (x * (x * v) + x * (-r * v) + x * u)) from by ac_rfl]
      rw [show -r * u + r * u = 0 from by rw [fneg_mul, fneg_add], fzero_add]
theorem sd_last (r : K) (p : List K) (h : 2 ≤ p.length) : (sd r p).getLast? = p.getLast? := by
  induction p with
  | nil => simp at h
  | cons c t ih => cases t with
    | nil => simp at h
    | cons d t =>
      cases t with
      | nil => simp [sd, ev, fmul_zero, fadd_zero]
      | cons e t =>
        have := ih (by simp)
        have h1 : sd r (c :: d :: e :: t) = ev r (d :: e :: t) :: sd r (d :: e :: t) := rfl
        rw [h1]
        have h2 : sd r (d :: e :: t) = ev r (e :: t) :: sd r (e :: t) := rfl
        rw [h2] at this ⊢
        simp only [List.getLast?_cons_cons] at this ⊢
        exact this
theorem roots_le (p : List K) (c : K) (hc : p.getLast? = some c) (hc0 : c ≠ 0) (l : List K) (hl : l.Nodup) (hr : ∀ x ∈ l, ev x p = 0) : l.length < p.length := by
  induction l generalizing p with
  | nil => have : p ≠ [] := by intro h; subst h; simp at hc
           exact List.length_pos_iff.2 this
  | cons r l ih =>
    rw [List.nodup_cons] at hl
    by_cases h2 : 2 ≤ p.length
    · have := ih (sd r p) (by rw [sd_last r p h2]; exact hc) hl.2 (by
        intro x hx
        have e := ev_sd r x p
        rw [hr x (by simp [hx]), hr r (by simp), fadd_zero] at e
        rcases fnzd e.symm with h | h
        · rw [fsub_eq_zero] at h; subst h; exact absurd hx hl.1
        · exact h)
      rw [sd_length] at this
      simp only [List.length_cons]; omega
    · exfalso
      match p, hc, h2 with
      | [], hc, _ => simp at hc
      | [d], hc, _ =>
        have : d = c := by simpa using hc
        subst this
        have := hr r (by simp)
        simp only [ev, fmul_zero, fadd_zero] at this
        exact hc0 this
      | _ :: _ :: _, _, h2 => simp at h2
theorem ev_xn (x : K) (e : Nat) : ev x (List.replicate e (0 : K) ++ [1]) = x ^ e := by
  induction e with
  | zero => simp only [List.replicate_zero, List.nil_append, ev, fmul_zero, fadd_zero, fpow_zero]
  | succ e ih => simp only [List.replicate_succ, List.cons_append, ev, ih, fzero_add, fpow_succ]; exact fmul_comm _ _
theorem units_le_of_pow {e : Nat} (he : 1 ≤ e) (h : ∀ a : K, a ≠ 0 → a ^ e = 1) : card K - 1 ≤ e := by
  obtain ⟨e, rfl⟩ : ∃ d, e = d + 1 := ⟨e - 1, by omega⟩
  have := roots_le (K := K) (-1 :: (List.replicate e (0 : K) ++ [1])) 1 (by rw [List.getLast?_cons]; simp) fone_ne (units K) nodup_units (by
    intro x hx
    have h1 := h x (mem_units.1 hx)
    simp only [ev, ev_xn]
    rw [fmul_comm, ← fpow_succ, h1, fneg_add])
  simp only [List.length_cons, List.length_append, List.length_replicate, List.length_nil] at this
  have := units_length (K := K); omega
/-- the multiplicative group is cyclic -/
theorem cyclic : ∃ g : K, IsOrd g (card K - 1) := by
  -- an element of the greatest order
  have key : ∀ d : Nat, ∀ a : K, ∀ m, IsOrd a m → card K - 1 - m ≤ d → ∃ g : K, IsOrd g (card K - 1) := by
    intro d
    induction d with
    | zero =>
      intro a m h hd
      have := h.le
      obtain rfl : m = card K - 1 := by omega
      exact ⟨a, h⟩
    | succ d ih =>
      intro a m h hd
      by_cases hall : ∀ b : K, b ≠ 0 → b ^ m = 1
      · have := units_le_of_pow h.1 hall
        have := h.le
        obtain rfl : m = card K - 1 := by omega
        exact ⟨a, h⟩
      · have : ∃ b : K, b ≠ 0 ∧ b ^ m ≠ 1 := by
          apply Classical.byContradiction
          intro hno
          exact hall fun b hb => Classical.byContradiction fun hx => hno ⟨b, hb, hx⟩
        obtain ⟨b, hb, hbm⟩ := this
        obtain ⟨k, hk⟩ := isOrd_exists hb
        obtain ⟨c, l, hcl, hlt⟩ := greater_order h hk (fun hd => hbm (hk.dvd.2 hd))
        exact ih c l hcl (by have := hcl.le; omega)
  exact key (card K) 1 1 ⟨Nat.le_refl 1, fone_pow 1, fun m hm hlt => by omega⟩ (by omega)
end Go.Proofs.Ythpcneeidhmdkaa
namespace Go.Proofs.Ythpcneeidhmdkaa
/-! multiplication modulo a polynomial, or a number -/
theorem cmod_xor (x y p : Nat) (hp : p ≠ 0) : cmod (x ^^^ y) p = cmod x p ^^^ cmod y p := by
  refine (cmod_unique _ _ _ ?_ ?_).symm
  · have := cdvd_xor (cmod_dvd x p) (cmod_dvd y p)
    rw [show x ^^^ cmod x p ^^^ (y ^^^ cmod y p) = (x ^^^ y) ^^^ (cmod x p ^^^ cmod y p) from by ac_rfl] at this
    exact this
  · have h1 := cmod_lt x p hp
    have h2 := cmod_lt y p hp
    have := bl_xor_le (cmod x p) (cmod y p) (bl p - 1) (by omega) (by omega)
    omega
theorem cmod_congr (x y p : Nat) (hp : p ≠ 0) (h : cdvd p (x ^^^ y)) : cmod x p = cmod y p := by
  refine cmod_unique _ _ _ ?_ (cmod_lt _ _ hp)
  have := cdvd_xor h (cmod_dvd x p)
  rw [show x ^^^ y ^^^ (x ^^^ cmod x p) = (x ^^^ x) ^^^ (y ^^^ cmod x p) from by ac_rfl] at this
  simpa using this
theorem cmod_cmul_left (x y p : Nat) (hp : p ≠ 0) : cmod (cmul (cmod x p) y) p = cmod (cmul x y) p := by
  refine (cmod_congr _ _ _ hp ?_).symm
  rw [← xor_cmul]
  exact cdvd_mul _ (cmod_dvd x p)
theorem cmod_cmul_right (x y p : Nat) (hp : p ≠ 0) : cmod (cmul x (cmod y p)) p = cmod (cmul x y) p := by
  rw [cmul_comm, cmod_cmul_left _ _ _ hp, cmul_comm]
theorem bl_lt_of_lt (a d : Nat) (h : a < 2 ^ d) : bl a ≤ d := (bl_le_iff _ _).2 h
/-- 2 a modulo p -/
theorem cmod_double (a p d : Nat) (hp : bl p = d + 1) (ha : bl a ≤ d) : cmod (2 * a) p = if 2 ^ d ≤ 2 * a then (2 * a) ^^^ p else 2 * a := by
  have hp0 : p ≠ 0 := by intro h; subst h; rw [bl_zero] at hp; omega
  have h2 : bl (2 * a) ≤ d + 1 := by
    by_cases h : a = 0
    · subst h; rw [Nat.mul_zero, bl_zero]; omega
    · rw [bl_two_mul a h]; omega
  split
  · rename_i h
    have h3 : bl (2 * a) = d + 1 := by have := (lt_bl_iff (2 * a) d).2 h; omega
    refine (cmod_unique _ _ _ ?_ ?_).symm
    · rw [← Nat.xor_assoc]; simp; exact cdvd_refl p
    · have := bl_xor_lt (2 * a) p d h3 hp; omega
  · rename_i h
    exact cmod_small _ _ (by have := (bl_le_iff (2 * a) d).2 (by omega); omega)

/-- the product in the field with s elements and the polynomial p (0: a prime field) -/
def fmulN (s p a b : Nat) : Nat := if p = 0 then a * b % s else cmod (cmul a b) p
/-- one round of the product -/
theorem mul_round (A B p : Nat) (hp : p ≠ 0) : cmod (cmul A B) p = (if B % 2 = 1 then cmod A p else 0) ^^^ cmod (cmul (cmod (2 * A) p) (B / 2)) p := by
  rw [cmul_eq, cmod_xor _ _ _ hp, cmod_cmul_left _ _ _ hp, two_mul_cmul]
  congr 1
  split
  · rfl
  · exact cmod_small 0 p (by rw [bl_zero]; exact bl_pos p hp)
end Go.Proofs.Ythpcneeidhmdkaa
namespace Go.Proofs.Ythpcneeidhmdkaa
/-! the program's fields are fields -/
/-- no polynomial of degree 1 to half the degree divides p -/
def irrB (p : Nat) : Bool := (List.range (2 ^ ((bl p - 1) / 2 + 1))).all fun q => decide (q < 2) || cmod p q != 0
theorem irrB_iff (p : Nat) : irrB p = true ↔ ∀ q, 2 ≤ q → 2 * (bl q - 1) ≤ bl p - 1 → cmod p q ≠ 0 := by
  unfold irrB
  rw [List.all_eq_true]
  constructor
  · intro h q h2 hd
    have hb := bl_pos q (by omega)
    have := h q (List.mem_range.2 ((bl_le_iff _ _).1 (by omega)))
    simp at this; omega
  · intro h q hq
    have h1 := (bl_le_iff q _).2 (List.mem_range.1 hq)
    by_cases h2 : q < 2
    · simp [h2]
    · have := h q (by omega) (by have := bl_pos q (by omega); omega)
      simp [this]
/-- no number from 2 on whose square is at most n divides n -/
def primeB (n : Nat) : Bool := decide (2 ≤ n) && (List.range (n + 1)).all fun d => decide (d < 2) || decide (n < d * d) || n % d != 0
theorem primeB_iff (n : Nat) : primeB n = true ↔ 2 ≤ n ∧ ∀ d, 2 ≤ d → d * d ≤ n → n % d ≠ 0 := by
  unfold primeB
  rw [Bool.and_eq_true, List.all_eq_true, decide_eq_true_iff]
  constructor
  · rintro ⟨h0, h⟩
    refine ⟨h0, fun d h2 hd => ?_⟩
    have hle : d ≤ n := Nat.le_trans (Nat.le_mul_of_pos_left d (by omega)) hd
    have := h d (List.mem_range.2 (by omega))
    simp at this
    omega
  · rintro ⟨h0, h⟩
    refine ⟨h0, fun d _ => ?_⟩
    by_cases h2 : d < 2
    · simp [h2]
    · by_cases h3 : n < d * d
      · simp [h3]
      · have := h d (by omega) (by omega); simp [this]
theorem prime_dvd {n : Nat} (h : primeB n = true) : ∀ d, d ∣ n → d = 1 ∨ d = n := by
  obtain ⟨h2, hd⟩ := (primeB_iff n).1 h
  intro d hdn
  obtain ⟨e, he⟩ := hdn
  have hd0 : d ≠ 0 := by intro h; subst h; omega
  have he0 : e ≠ 0 := by intro h; subst h; omega
  by_cases d1 : d = 1
  · exact .inl d1
  by_cases e1 : e = 1
  · subst e1; right; omega
  exfalso
  by_cases hde : d ≤ e
  · have : d * d ≤ n := by rw [he]; exact Nat.mul_le_mul_left d hde
    exact hd d (by omega) this (by rw [he]; exact Nat.mul_mod_right d e)
  · have : e * e ≤ n := by rw [he]; exact Nat.mul_le_mul_right e (by omega)
    exact hd e (by omega) this (Nat.mod_eq_zero_of_dvd ⟨d, by rw [he, Nat.mul_comm]⟩)
theorem irr_of {p d : Nat} (hp : bl p = d + 1) (h1 : 1 ≤ d) (h : irrB p = true) : Irr p := by
  refine ⟨by omega, fun q hq hd hdv => ?_⟩
  exact (irrB_iff p).1 h q hq hd ((cmod_eq_zero p q (by omega)).2 hdv)

/-- a valid field: characteristic, number of elements, polynomial -/
def VF (c s p : Nat) : Prop :=
  (p = 0 ∧ c = s ∧ 2 < s ∧ s ≤ 4096 ∧ primeB s = true) ∨ (∃ d, 1 ≤ d ∧ d ≤ 12 ∧ bl p = d + 1 ∧ s = 2 ^ d ∧ c = 2 ∧ irrB p = true)
def faddN (s p a b : Nat) : Nat := if p = 0 then (a + b) % s else a ^^^ b
def fnegN (s p a : Nat) : Nat := if p = 0 then (s - a) % s else a
/-- an element -/
structure El (s : Nat) where
  val : Nat
  lt : val < s
theorem El.ext {s : Nat} {a b : El s} (h : a.val = b.val) : a = b := by
  cases a; cases b; simp only at h; subst h; rfl
theorem VF.two_le {c s p : Nat} (h : VF c s p) : 2 ≤ s := by
  rcases h with ⟨-, -, h, -⟩ | ⟨d, h1, -, -, h, -⟩
  · omega
  · rw [h]; exact Nat.pow_le_pow_right (n := 2) (by omega) h1
theorem VF.le {c s p : Nat} (h : VF c s p) : s ≤ 4096 := by
  rcases h with ⟨-, -, -, h, -⟩ | ⟨d, -, h1, -, h, -⟩
  · omega
  · rw [h]; exact Nat.pow_le_pow_right (n := 2) (by omega) h1
theorem fadd_lt {c s p : Nat} (h : VF c s p) (a b : Nat) (ha : a < s) (hb : b < s) : faddN s p a b < s := by
  have h2 := h.two_le
  unfold faddN
  rcases h with ⟨hp, -⟩ | ⟨d, -, -, hp, hs, -⟩
  · rw [if_pos hp]; exact Nat.mod_lt _ (by omega)
  · rw [if_neg (by intro h; subst h; rw [bl_zero] at hp; omega)]
    subst hs; exact Nat.xor_lt_two_pow ha hb
theorem fneg_lt {c s p : Nat} (h : VF c s p) (a : Nat) (ha : a < s) : fnegN s p a < s := by
  unfold fnegN
  split
  · exact Nat.mod_lt _ (by have := h.two_le; omega)
  · exact ha
theorem fmul_lt {c s p : Nat} (h : VF c s p) (a b : Nat) : fmulN s p a b < s := by
  have h2 := h.two_le
  unfold fmulN
  rcases h with ⟨hp, -⟩ | ⟨d, -, -, hp, hs, -⟩
  · rw [if_pos hp]; exact Nat.mod_lt _ (by omega)
  · have hp0 : p ≠ 0 := by intro h; subst h; rw [bl_zero] at hp; omega
    rw [if_neg hp0]
    subst hs; exact (bl_le_iff _ _).1 (by have := cmod_lt (cmul a b) p hp0; omega)
theorem mod_mul_mod_left (a b n : Nat) : (a % n) * b % n = a * b % n := by rw [Nat.mul_mod, Nat.mod_mod, ← Nat.mul_mod]
theorem mod_mul_mod_right (a b n : Nat) : a * (b % n) % n = a * b % n := by rw [Nat.mul_mod, Nat.mod_mod, ← Nat.mul_mod]
theorem neg_add_mod (a s : Nat) (ha : a < s) : ((s - a) % s + a) % s = 0 := by
  by_cases h : a = 0
  · subst h; simp
  · rw [Nat.mod_eq_of_lt (by omega : s - a < s), show s - a + a = s from by omega, Nat.mod_self]
instance elDec (s : Nat) : DecidableEq (El s) := fun a b =>
  if h : a.val = b.val then isTrue (El.ext h) else isFalse (fun e => h (by rw [e]))
theorem mul_zero_of {c s p : Nat} (h : VF c s p) (a b : Nat) (ha : a < s) (hb : b < s) (h0 : fmulN s p a b = 0) : a = 0 ∨ b = 0 := by
  unfold fmulN at h0
  rcases h with ⟨hp, -, -, -, hpr⟩ | ⟨d, h1, -, hp, hs, -, hir⟩
  · rw [if_pos hp] at h0
    have hd := Nat.dvd_of_mod_eq_zero h0
    by_cases hsa : s ∣ a
    · left
      by_cases ha0 : a = 0
      · exact ha0
      · exact absurd (Nat.le_of_dvd (by omega) hsa) (by omega)
    · right
      have hc := coprime_of_prime (prime_dvd hpr) hsa
      have hsb := hc.dvd_of_dvd_mul_left hd
      by_cases hb0 : b = 0
      · exact hb0
      · exact absurd (Nat.le_of_dvd (by omega) hsb) (by omega)
  · have hp0 : p ≠ 0 := by intro h; subst h; rw [bl_zero] at hp; omega
    rw [if_neg hp0] at h0
    subst hs
    have hba := (bl_le_iff _ _).2 ha
    have hbb := (bl_le_iff _ _).2 hb
    rcases euclid p a b (irr_of hp h1 hir) ((cmod_eq_zero _ _ hp0).1 h0) with h | h
    · exact .inl (cdvd_small h (by omega))
    · exact .inr (cdvd_small h (by omega))
/-- THE FIELD -/
@[reducible] def fldOf {c s p : Nat} (h : VF c s p) : Fl (El s) where
  add a b := ⟨faddN s p a.val b.val, fadd_lt h _ _ a.lt b.lt⟩
  mul a b := ⟨fmulN s p a.val b.val, fmul_lt h _ _⟩
  neg a := ⟨fnegN s p a.val, fneg_lt h _ a.lt⟩
  zero := ⟨0, by have := h.two_le; omega⟩
  one := ⟨1, by have := h.two_le; omega⟩
  add_assoc a b c := El.ext (by
    simp only [faddN]; split
    · rw [Nat.mod_add_mod, Nat.add_mod_mod, Nat.add_assoc]
    · exact Nat.xor_assoc _ _ _)
  add_comm a b := El.ext (by
    simp only [faddN]; split
    · rw [Nat.add_comm]
    · exact Nat.xor_comm _ _)
  zero_add a := El.ext (by
    simp only [faddN]; split
    · rw [Nat.zero_add]; exact Nat.mod_eq_of_lt a.lt
    · exact Nat.zero_xor _)
  neg_add a := El.ext (by
    simp only [faddN, fnegN]; split
    · exact neg_add_mod _ _ a.lt
    · exact Nat.xor_self _)
  mul_assoc a b c := El.ext (by
    simp only [fmulN]; split
    · rw [mod_mul_mod_left, mod_mul_mod_right, Nat.mul_assoc]
    · rename_i hp; rw [cmod_cmul_left _ _ _ hp, cmod_cmul_right _ _ _ hp, cmul_assoc])
  mul_comm a b := El.ext (by
    simp only [fmulN]; split
    · rw [Nat.mul_comm]
    · rw [cmul_comm])
  one_mul a := El.ext (by
    simp only [fmulN]
    rcases h with ⟨hp, -⟩ | ⟨d, -, -, hp, hs, -⟩
    · rw [if_pos hp, Nat.one_mul]; exact Nat.mod_eq_of_lt a.lt
    · have hp0 : p ≠ 0 := by intro h; subst h; rw [bl_zero] at hp; omega
      rw [if_neg hp0, one_cmul]
      have := a.lt; subst hs
      exact cmod_small _ _ (by have := (bl_le_iff _ _).2 this; omega))
  add_mul a b c := El.ext (by
    simp only [fmulN, faddN]; split
    · rw [mod_mul_mod_left, Nat.add_mul, Nat.mod_add_mod, Nat.add_mod_mod]
    · rename_i hp; rw [xor_cmul, cmod_xor _ _ _ hp])
  one_ne := by intro e; have := congrArg El.val e; simp at this
  nzd a b e := by
    rcases mul_zero_of h a.val b.val a.lt b.lt (congrArg El.val e) with h | h
    · exact .inl (El.ext h)
    · exact .inr (El.ext h)
  dec := elDec s
  els := (List.finRange s).map fun i => ⟨i.val, i.isLt⟩
  nodup := nodup_map (fun a _ b _ e => Fin.ext (congrArg El.val e)) (List.nodup_finRange s)
  mem a := List.mem_map.2 ⟨⟨a.val, a.lt⟩, List.mem_finRange _, rfl⟩
theorem card_fldOf {c s p : Nat} (h : VF c s p) : @card (El s) (fldOf h) = s := by
  show ((List.finRange s).map _).length = s
  simp
/-- powers, as n times the product -/
def fpowN (s p a : Nat) : Nat → Nat
  | 0 => 1
  | n + 1 => fmulN s p (fpowN s p a n) a
theorem fpowN_val {c s p : Nat} (h : VF c s p) (a : El s) (n : Nat) : fpowN s p a.val n = (@HPow.hPow (El s) Nat (El s) (@Fl.instHPowNat (El s) (fldOf h)) a n).val := by
  induction n with
  | zero => rfl
  | succ n ih => simp only [fpowN]; rw [ih]; rfl
end Go.Proofs.Ythpcneeidhmdkaa
namespace Go.Proofs.Ythpcneeidhmdkaa
set_option linter.unusedVariables false
/-! powers in the program's fields -/
section
variable {c s p : Nat} (h : VF c s p)
include h
theorem fmulN_val (a b : El s) : fmulN s p a.val b.val = (@HMul.hMul (El s) (El s) (El s) (@instHMul _ (@Fl.instMul (El s) (fldOf h))) a b).val := rfl
theorem fpowN_lt (a n : Nat) : fpowN s p a n < s := by
  cases n with
  | zero => have := h.two_le; show 1 < s; omega
  | succ n => exact fmul_lt h _ _
theorem pow_even (r a N : Nat) (hr : r < s) (ha : a < s) (hN : N % 2 = 0) :
    fmulN s p r (fpowN s p (fmulN s p a a) (N / 2)) = fmulN s p r (fpowN s p a N) := by
  letI := fldOf h
  let x : El s := ⟨a, ha⟩
  have e1 : fmulN s p a a = (x * x).val := rfl
  have e2 : fpowN s p a N = (x ^ N).val := fpowN_val h x N
  rw [e1, e2, fpowN_val h (x * x) (N / 2)]
  have e3 : (x * x) ^ (N / 2) = x ^ N := by
    rw [fmul_pow, ← fpow_add]
    exact congrArg (fun n => x ^ n) (show N / 2 + N / 2 = N by omega)
  rw [← e3]
theorem pow_odd (r a N : Nat) (hr : r < s) (ha : a < s) (hN : N % 2 = 1) :
    fmulN s p (fmulN s p r a) (fpowN s p (fmulN s p a a) (N / 2)) = fmulN s p r (fpowN s p a N) := by
  letI := fldOf h
  let x : El s := ⟨a, ha⟩
  let y : El s := ⟨r, hr⟩
  have e1 : fmulN s p a a = (x * x).val := rfl
  have e2 : fpowN s p a N = (x ^ N).val := fpowN_val h x N
  have e4 : fmulN s p r a = (y * x).val := rfl
  rw [e1, e2, e4, fpowN_val h (x * x) (N / 2)]
  have e3 : y * x * (x * x) ^ (N / 2) = y * x ^ N := by
    have e5 : x ^ N = x ^ (N / 2 + N / 2) * x := by
      rw [← fpow_succ]; exact congrArg (fun n => x ^ n) (show N = N / 2 + N / 2 + 1 by omega)
    rw [fmul_pow, ← fpow_add, fmul_assoc, fmul_comm x, e5]
  show (y * x * (x * x) ^ (N / 2)).val = (y * x ^ N).val
  rw [e3]
theorem one_mulN (a : Nat) (ha : a < s) : fmulN s p 1 a = a := by
  letI := fldOf h
  let x : El s := ⟨a, ha⟩
  show ((1 : El s) * x).val = x.val
  rw [fone_mul]
theorem mul_oneN (a : Nat) (ha : a < s) : fmulN s p a 1 = a := by
  letI := fldOf h
  let x : El s := ⟨a, ha⟩
  show (x * (1 : El s)).val = x.val
  rw [fmul_one]
end
end Go.Proofs.Ythpcneeidhmdkaa
namespace Go.Proofs.Ythpcneeidhmdkaa
set_option linter.unusedVariables false
/-! orders and generators in the program's fields -/
/-- k is the order of a -/
def OrdN (s p a k : Nat) : Prop := 1 ≤ k ∧ fpowN s p a k = 1 ∧ ∀ m, 1 ≤ m → m < k → fpowN s p a m ≠ 1
theorem OrdN.unique {s p a k l : Nat} (h : OrdN s p a k) (g : OrdN s p a l) : k = l := by
  by_cases h1 : k < l
  · exact absurd h.2.1 (g.2.2 k h.1 h1)
  · by_cases h2 : l < k
    · exact absurd g.2.1 (h.2.2 l g.1 h2)
    · omega
section
variable {c s p : Nat} (h : VF c s p)
include h
theorem fpowN_one_iff (x : El s) (n : Nat) : fpowN s p x.val n = 1 ↔ (letI := fldOf h; x ^ n = (1 : El s)) := by
  rw [fpowN_val h]
  constructor
  · intro e; exact El.ext e
  · intro e; exact congrArg El.val e
theorem ordN_iff (x : El s) (k : Nat) : OrdN s p x.val k ↔ (letI := fldOf h; IsOrd x k) := by
  letI := fldOf h
  constructor
  · rintro ⟨h1, h2, h3⟩
    exact ⟨h1, (fpowN_one_iff h x k).1 h2, fun m hm hlt e => h3 m hm hlt ((fpowN_one_iff h x m).2 e)⟩
  · rintro ⟨h1, h2, h3⟩
    exact ⟨h1, (fpowN_one_iff h x k).2 h2, fun m hm hlt e => h3 m hm hlt ((fpowN_one_iff h x m).1 e)⟩
theorem el_ne_zero (x : El s) : (letI := fldOf h; x ≠ (0 : El s)) ↔ x.val ≠ 0 := by
  letI := fldOf h
  constructor
  · intro e e2; exact e (El.ext e2)
  · intro e e2; exact e (congrArg El.val e2)
theorem ordN_exists (a : Nat) (ha : a < s) (h0 : a ≠ 0) : ∃ k, OrdN s p a k ∧ k ≤ s - 1 := by
  letI := fldOf h
  let x : El s := ⟨a, ha⟩
  obtain ⟨k, hk⟩ := isOrd_exists ((el_ne_zero h x).2 h0)
  have := hk.le
  rw [card_fldOf h] at this
  exact ⟨k, (ordN_iff h x k).2 hk, this⟩
theorem ordN_le (a k : Nat) (ha : a < s) (hk : OrdN s p a k) : k ≤ s - 1 := by
  letI := fldOf h
  let x : El s := ⟨a, ha⟩
  have := ((ordN_iff h x k).1 hk).le
  rwa [card_fldOf h] at this
/-- the least generator -/
def GenN (s p g : Nat) : Prop := 1 ≤ g ∧ g < s ∧ OrdN s p g (s - 1) ∧ ∀ x, 1 ≤ x → x < g → ¬ OrdN s p x (s - 1)
theorem genN_exists : ∃ g, GenN s p g := by
  letI := fldOf h
  obtain ⟨x, hx⟩ := cyclic (K := El s)
  rw [card_fldOf h] at hx
  have hx0 := (el_ne_zero h x).1 hx.ne
  obtain ⟨g, ⟨h1, h2, h3⟩, h4⟩ := exists_least (P := fun g => 1 ≤ g ∧ g < s ∧ OrdN s p g (s - 1)) ⟨x.val, by omega, x.lt, (ordN_iff h x _).2 hx⟩
  exact ⟨g, h1, h2, h3, fun y hy hlt ho => h4 y hlt ⟨hy, by omega, ho⟩⟩
end
theorem genN_unique {s p g k : Nat} (hg : GenN s p g) (hk : GenN s p k) : g = k := by
  by_cases h1 : g < k
  · exact absurd hg.2.2.1 (hk.2.2.2 g hg.1 h1)
  · by_cases h2 : k < g
    · exact absurd hk.2.2.1 (hg.2.2.2 k hk.1 h2)
    · omega
/-- the order, the generator, as functions -/
noncomputable def ordF (s p a : Nat) : Nat := @dite Nat (∃ k, OrdN s p a k) (Classical.propDecidable _) (fun h => Classical.choose h) (fun _ => 0)
theorem ordF_of {s p a k : Nat} (h : OrdN s p a k) : ordF s p a = k := by
  have hx : ∃ k, OrdN s p a k := ⟨k, h⟩
  unfold ordF
  rw [dif_pos hx]
  exact (Classical.choose_spec hx).unique h
theorem ordF_spec {c s p a : Nat} (h : VF c s p) (ha : a < s) (h0 : a ≠ 0) : OrdN s p a (ordF s p a) ∧ ordF s p a ≤ s - 1 := by
  obtain ⟨k, hk, hle⟩ := ordN_exists h a ha h0
  rw [ordF_of hk]; exact ⟨hk, hle⟩
noncomputable def genF (s p : Nat) : Nat := @dite Nat (∃ k, GenN s p k) (Classical.propDecidable _) (fun h => Classical.choose h) (fun _ => 0)
theorem genF_spec {c s p : Nat} (h : VF c s p) : GenN s p (genF s p) := by
  have hx := genN_exists h
  unfold genF
  rw [dif_pos hx]
  exact Classical.choose_spec hx
/-! logarithms -/
theorem gen_inj {c s p : Nat} (h : VF c s p) {i j : Nat} (hi : i < s - 1) (hj : j < s - 1) (e : fpowN s p (genF s p) i = fpowN s p (genF s p) j) : i = j := by
  have hg := genF_spec h
  letI := fldOf h
  let x : El s := ⟨genF s p, hg.2.1⟩
  have hx : IsOrd x (s - 1) := (ordN_iff h x _).1 hg.2.2.1
  refine hx.inj hi hj ?_
  have e2 : (x ^ i).val = (x ^ j).val := by rw [← fpowN_val h, ← fpowN_val h]; exact e
  exact El.ext e2
theorem gen_surj {c s p : Nat} (h : VF c s p) {a : Nat} (ha : a < s) (h0 : a ≠ 0) : ∃ j, j < s - 1 ∧ fpowN s p (genF s p) j = a := by
  have hg := genF_spec h
  letI := fldOf h
  let x : El s := ⟨genF s p, hg.2.1⟩
  have hx : IsOrd x (s - 1) := (ordN_iff h x _).1 hg.2.2.1
  let l : List (El s) := (List.range (s - 1)).map fun j => x ^ j
  have hn : l.Nodup := nodup_map (fun i hi j hj e => hx.inj (List.mem_range.1 hi) (List.mem_range.1 hj) e) List.nodup_range
  have hsub : ∀ y ∈ l, y ∈ units (El s) := by
    intro y hy
    obtain ⟨j, _, rfl⟩ := List.mem_map.1 hy
    exact mem_units.2 (fpow_ne hx.ne j)
  have hlen : (units (El s)).length ≤ l.length := by
    have h1 := units_length (K := El s)
    rw [card_fldOf h] at h1
    simp [l]; omega
  have hp := perm_of_subset hn hsub hlen
  let y : El s := ⟨a, ha⟩
  have hy : y ∈ l := hp.mem_iff.2 (mem_units.2 ((el_ne_zero h y).2 h0))
  obtain ⟨j, hj, e⟩ := List.mem_map.1 hy
  exact ⟨j, List.mem_range.1 hj, by rw [show genF s p = x.val from rfl, fpowN_val h]; exact congrArg El.val e⟩
noncomputable def logF (s p a : Nat) : Nat := @dite Nat (∃ j, j < s - 1 ∧ fpowN s p (genF s p) j = a) (Classical.propDecidable _) (fun h => Classical.choose h) (fun _ => 0)
theorem logF_spec {c s p a : Nat} (h : VF c s p) (ha : a < s) (h0 : a ≠ 0) : logF s p a < s - 1 ∧ fpowN s p (genF s p) (logF s p a) = a := by
  have hx := gen_surj h ha h0
  unfold logF
  rw [dif_pos hx]
  exact Classical.choose_spec hx
theorem logF_of {c s p a j : Nat} (h : VF c s p) (ha : a < s) (h0 : a ≠ 0) (hj : j < s - 1) (e : fpowN s p (genF s p) j = a) : logF s p a = j := by
  have hx := logF_spec h ha h0
  exact gen_inj h hx.1 hj (hx.2.trans e.symm)
end Go.Proofs.Ythpcneeidhmdkaa
namespace Go.Proofs.Ythpcneeidhmdkaa
/-! bit operations on int -/
theorem ofInt_i64 (a : Nat) (ha : a < 2 ^ 62) : (BitVec.ofInt 64 (a : Int)).toNat = a := by
  rw [BitVec.ofInt_natCast, BitVec.toNat_ofNat]; exact Nat.mod_eq_of_lt (by omega)
theorem i64_xor_nat (a b : Nat) (ha : a < 2 ^ 62) (hb : b < 2 ^ 62) : bits .xor .i64 (a : Int) (b : Int) = ((a ^^^ b : Nat) : Int) := by
  have hx : a ^^^ b < 2 ^ 62 := Nat.xor_lt_two_pow ha hb
  show IntKind.i64.wrap ((BitVec.ofInt 64 (a : Int) ^^^ BitVec.ofInt 64 (b : Int)).toNat : Int) = _
  rw [BitVec.toNat_xor, ofInt_i64 a ha, ofInt_i64 b hb, IntKind.wrap_i64]
  omega
theorem i64_and_nat (a b : Nat) (ha : a < 2 ^ 62) (hb : b < 2 ^ 62) : bits .and .i64 (a : Int) (b : Int) = ((a &&& b : Nat) : Int) := by
  have hx : a &&& b < 2 ^ 62 := Nat.and_lt_two_pow _ hb
  show IntKind.i64.wrap ((BitVec.ofInt 64 (a : Int) &&& BitVec.ofInt 64 (b : Int)).toNat : Int) = _
  rw [BitVec.toNat_and, ofInt_i64 a ha, ofInt_i64 b hb, IntKind.wrap_i64]
  omega
theorem i64_xor (a b : Int) (h0 : 0 ≤ a) (h1 : a < 4611686018427387904) (h2 : 0 ≤ b) (h3 : b < 4611686018427387904) : bits .xor .i64 a b = ((a.toNat ^^^ b.toNat : Nat) : Int) := by
  obtain ⟨A, rfl⟩ := Int.eq_ofNat_of_zero_le h0
  obtain ⟨B, rfl⟩ := Int.eq_ofNat_of_zero_le h2
  simpa using i64_xor_nat A B (by omega) (by omega)
theorem i64_and (a b : Int) (h0 : 0 ≤ a) (h1 : a < 4611686018427387904) (h2 : 0 ≤ b) (h3 : b < 4611686018427387904) : bits .and .i64 a b = ((a.toNat &&& b.toNat : Nat) : Int) := by
  obtain ⟨A, rfl⟩ := Int.eq_ofNat_of_zero_le h0
  obtain ⟨B, rfl⟩ := Int.eq_ofNat_of_zero_le h2
  simpa using i64_and_nat A B (by omega) (by omega)
theorem i64_and_one (a : Nat) (ha : a < 2 ^ 62) : bits .and .i64 (a : Int) 1 = ((a % 2 : Nat) : Int) := by
  have := i64_and_nat a 1 ha (by decide)
  rw [Nat.and_one_is_mod] at this; exact this
end Go.Proofs.Ythpcneeidhmdkaa
namespace Go.Proofs.Ythpcneeidhmdkaa
set_option linter.unusedVariables false
/-! the laws of the field, said of numbers -/
def fsubN (s p a b : Nat) : Nat := if p = 0 then (a + s - b) % s else a ^^^ b
def finvN (s p a : Nat) : Nat := fpowN s p a (s - 2)
section
variable {c s p : Nat} (h : VF c s p)
include h
theorem fsubN_val (x y : El s) : fsubN s p x.val y.val = (letI := fldOf h; (x - y : El s).val) := by
  show fsubN s p x.val y.val = faddN s p x.val (fnegN s p y.val)
  unfold fsubN faddN fnegN
  split
  · rw [Nat.add_mod_mod]
    have := y.lt
    rw [show x.val + s - y.val = x.val + (s - y.val) from by omega]
  · rfl
theorem addN_assoc {x y z : Nat} (hx : x < s) (hy : y < s) (hz : z < s) : faddN s p (faddN s p x y) z = faddN s p x (faddN s p y z) := by
  letI := fldOf h
  exact congrArg El.val (fadd_assoc (⟨x, hx⟩ : El s) ⟨y, hy⟩ ⟨z, hz⟩)
theorem addN_comm {x y : Nat} (hx : x < s) (hy : y < s) : faddN s p x y = faddN s p y x := by
  letI := fldOf h
  exact congrArg El.val (fadd_comm (⟨x, hx⟩ : El s) ⟨y, hy⟩)
theorem addN_zero {x : Nat} (hx : x < s) : faddN s p x 0 = x := by
  letI := fldOf h
  exact congrArg El.val (fadd_zero (⟨x, hx⟩ : El s))
theorem mulN_assoc {x y z : Nat} (hx : x < s) (hy : y < s) (hz : z < s) : fmulN s p (fmulN s p x y) z = fmulN s p x (fmulN s p y z) := by
  letI := fldOf h
  exact congrArg El.val (fmul_assoc (⟨x, hx⟩ : El s) ⟨y, hy⟩ ⟨z, hz⟩)
theorem mulN_comm {x y : Nat} (hx : x < s) (hy : y < s) : fmulN s p x y = fmulN s p y x := by
  letI := fldOf h
  exact congrArg El.val (fmul_comm (⟨x, hx⟩ : El s) ⟨y, hy⟩)
theorem mulN_zero {x : Nat} (hx : x < s) : fmulN s p x 0 = 0 := by
  letI := fldOf h
  exact congrArg El.val (fmul_zero (⟨x, hx⟩ : El s))
theorem mulN_add {x y z : Nat} (hx : x < s) (hy : y < s) (hz : z < s) : fmulN s p x (faddN s p y z) = faddN s p (fmulN s p x y) (fmulN s p x z) := by
  letI := fldOf h
  exact congrArg El.val (fmul_add (⟨x, hx⟩ : El s) ⟨y, hy⟩ ⟨z, hz⟩)
theorem subN_lt {x y : Nat} (hx : x < s) (hy : y < s) : fsubN s p x y < s := by
  letI := fldOf h
  have e : fsubN s p x y = _ := fsubN_val h ⟨x, hx⟩ ⟨y, hy⟩
  rw [e]; exact El.lt _
theorem addN_neg {x : Nat} (hx : x < s) : faddN s p x (fsubN s p 0 x) = 0 := by
  letI := fldOf h
  have h0 : 0 < s := by omega
  have e : fsubN s p 0 x = _ := fsubN_val h ⟨0, h0⟩ ⟨x, hx⟩
  rw [e]
  have e2 : (⟨x, hx⟩ : El s) + ((0 : El s) - ⟨x, hx⟩) = 0 := by rw [fzero_sub, fadd_neg]
  exact congrArg El.val e2
theorem subN_add {x y : Nat} (hx : x < s) (hy : y < s) : faddN s p (fsubN s p x y) y = x := by
  letI := fldOf h
  have e : fsubN s p x y = _ := fsubN_val h ⟨x, hx⟩ ⟨y, hy⟩
  rw [e]
  exact congrArg El.val (fsub_add_cancel (⟨x, hx⟩ : El s) ⟨y, hy⟩)
theorem invN_lt {x : Nat} : finvN s p x < s := fpowN_lt h _ _
theorem mulN_inv {x : Nat} (hx : x < s) (h0 : x ≠ 0) : fmulN s p x (finvN s p x) = 1 := by
  letI := fldOf h
  let a : El s := ⟨x, hx⟩
  have hc : card (El s) = s := card_fldOf h
  have e : finvN s p x = (finv a).val := by
    show fpowN s p a.val (s - 2) = (a ^ (card (El s) - 2)).val
    rw [hc]; exact fpowN_val h a _
  rw [e]
  exact congrArg El.val (fmul_inv ((el_ne_zero h a).2 h0))
/-! powers -/
theorem powN_mod {x k : Nat} (hx : x < s) (hk : fpowN s p x k = 1) (n : Nat) : fpowN s p x n = fpowN s p x (n % k) := by
  letI := fldOf h
  let a : El s := ⟨x, hx⟩
  have e1 : a ^ k = 1 := (fpowN_one_iff h a k).1 hk
  have e2 := fpow_mod e1 n
  rw [show x = a.val from rfl, fpowN_val h a n, fpowN_val h a (n % k)]
  exact congrArg El.val e2
theorem powN_fermat {x : Nat} (hx : x < s) (h0 : x ≠ 0) : fpowN s p x (s - 1) = 1 := by
  letI := fldOf h
  let a : El s := ⟨x, hx⟩
  have hc : card (El s) = s := card_fldOf h
  refine (fpowN_one_iff h a _).2 ?_
  have := fermat ((el_ne_zero h a).2 h0)
  rw [hc] at this; exact this
theorem powN_add {x : Nat} (hx : x < s) (m n : Nat) : fpowN s p x (m + n) = fmulN s p (fpowN s p x m) (fpowN s p x n) := by
  letI := fldOf h
  let a : El s := ⟨x, hx⟩
  have := congrArg El.val (fpow_add a m n)
  rw [← fpowN_val] at this
  rw [show x = a.val from rfl, this, fpowN_val h a m, fpowN_val h a n]; rfl
theorem powN_lt {x : Nat} (n : Nat) : fpowN s p x n < s := fpowN_lt h _ _
/-- exponents modulo s - 1 add -/
theorem powN_emod_add {x : Nat} (hx : x < s) (h0 : x ≠ 0) (m n : Int) :
    fpowN s p x ((m + n) % ((s : Int) - 1)).toNat = fmulN s p (fpowN s p x (m % ((s : Int) - 1)).toNat) (fpowN s p x (n % ((s : Int) - 1)).toNat) := by
  have h2 := h.two_le
  have hf := powN_fermat h hx h0
  rw [← powN_add h hx, powN_mod h hx hf ((m % ((s : Int) - 1)).toNat + (n % ((s : Int) - 1)).toNat)]
  congr 1
  have a1 := Int.emod_nonneg m (show (s : Int) - 1 ≠ 0 by omega)
  have a2 := Int.emod_nonneg n (show (s : Int) - 1 ≠ 0 by omega)
  have a3 := Int.emod_nonneg (m + n) (show (s : Int) - 1 ≠ 0 by omega)
  have e : (((m % ((s : Int) - 1)).toNat + (n % ((s : Int) - 1)).toNat) % (s - 1) : Nat) = (((m + n) % ((s : Int) - 1)).toNat : Nat) := by
    apply Int.ofNat.inj
    show (((((m % ((s : Int) - 1)).toNat + (n % ((s : Int) - 1)).toNat) % (s - 1) : Nat)) : Int) = (((m + n) % ((s : Int) - 1)).toNat : Int)
    rw [Int.natCast_emod, Int.natCast_add, Int.toNat_of_nonneg a1, Int.toNat_of_nonneg a2, Int.toNat_of_nonneg a3, show ((s - 1 : Nat) : Int) = (s : Int) - 1 from by omega]
    rw [Int.add_emod m n]
  exact e.symm
/-- the power Char of a sum -/
theorem powN_char {x y : Nat} (hx : x < s) (hy : y < s) : fpowN s p (faddN s p x y) c = faddN s p (fpowN s p x c) (fpowN s p y c) := by
  letI := fldOf h
  let a : El s := ⟨x, hx⟩
  let b : El s := ⟨y, hy⟩
  have hc : card (El s) = s := card_fldOf h
  have key : (a + b) ^ c = a ^ c + b ^ c := by
    rcases id h with ⟨hp, hcs, -⟩ | ⟨d, h1, -, hp, hs, h2, -⟩
    · have e := fpow_card (a + b)
      have e1 := fpow_card a
      have e2 := fpow_card b
      rw [hc] at e e1 e2
      rw [hcs, e, e1, e2]
    · have hp0 : p ≠ 0 := by intro h; subst h; rw [bl_zero] at hp; omega
      have two : ∀ z : El s, z + z = 0 := by
        intro z
        refine El.ext ?_
        show faddN s p z.val z.val = 0
        unfold faddN; rw [if_neg hp0, Nat.xor_self]
      subst h2
      have sq : ∀ z : El s, z ^ 2 = z * z := fun z => by rw [fpow_succ, fpow_one]
      rw [sq, sq, sq, fmul_add, fadd_mul, fadd_mul]
      rw [show a * a + b * a + (a * b + b * b) = (a * a + b * b) + (b * a + a * b) from by ac_rfl, fmul_comm b a, two, fadd_zero]
  have e := congrArg El.val key
  rw [← fpowN_val] at e
  have e3 : (a ^ c + b ^ c : El s).val = faddN s p (fpowN s p x c) (fpowN s p y c) := by
    show faddN s p (a ^ c).val (b ^ c).val = _
    rw [← fpowN_val, ← fpowN_val]
  rw [← e3, ← e]; rfl
/-- the order divides s - 1 -/
theorem ordF_dvd {x : Nat} (hx : x < s) (h0 : x ≠ 0) : (s - 1) % ordF s p x = 0 ∧ 1 ≤ ordF s p x ∧ ordF s p x ≤ s - 1 ∧ fpowN s p x (ordF s p x) = 1 := by
  have ho := ordF_spec h hx h0
  letI := fldOf h
  let a : El s := ⟨x, hx⟩
  have hc : card (El s) = s := card_fldOf h
  have := ((ordN_iff h a _).1 ho.1).dvd_card
  rw [hc] at this
  exact ⟨Nat.mod_eq_zero_of_dvd this, ho.1.1, ho.2, ho.1.2.1⟩
/-- the logarithm of a product -/
theorem logF_mul {x y : Nat} (hx : x < s) (hy : y < s) (hx0 : x ≠ 0) (hy0 : y ≠ 0) : logF s p (fmulN s p x y) = (logF s p x + logF s p y) % (s - 1) ∧ fmulN s p x y ≠ 0 := by
  have h2 := h.two_le
  have a := logF_spec h hx hx0
  have b := logF_spec h hy hy0
  have hne : fmulN s p x y ≠ 0 := by
    intro e
    rcases mul_zero_of h x y hx hy e with e | e
    · exact hx0 e
    · exact hy0 e
  refine ⟨logF_of h (fmul_lt h _ _) hne (Nat.mod_lt _ (by omega)) ?_, hne⟩
  have hg := genF_spec h
  rw [← powN_mod h hg.2.1 hg.2.2.1.2.1, powN_add h hg.2.1, a.2, b.2]
end
end Go.Proofs.Ythpcneeidhmdkaa
namespace Go.Proofs.Ythpcneeidhmdkaa
set_option linter.unusedVariables false
set_option linter.unusedSectionVars false
open Fl
/-! sequences of elements of a field: polynomials -/
section
variable {K : Type} [Fl K]
def tlS (a : Nat → K) : Nat → K := fun n => a (n + 1)
def conv : (Nat → K) → (Nat → K) → Nat → K
  | a, b, 0 => a 0 * b 0
  | a, b, n + 1 => a 0 * b (n + 1) + conv (tlS a) b n
theorem conv_zero (a b : Nat → K) : conv a b 0 = a 0 * b 0 := rfl
theorem conv_succ (a b : Nat → K) (n : Nat) : conv a b (n + 1) = a 0 * b (n + 1) + conv (tlS a) b n := rfl
theorem conv_congr {a a' b b' : Nat → K} {n : Nat} (ha : ∀ k, k ≤ n → a k = a' k) (hb : ∀ k, k ≤ n → b k = b' k) : conv a b n = conv a' b' n := by
  induction n generalizing a a' with
  | zero => rw [conv_zero, conv_zero, ha 0 (Nat.le_refl _), hb 0 (Nat.le_refl _)]
  | succ n ih =>
    rw [conv_succ, conv_succ, ha 0 (by omega), hb (n + 1) (by omega), ih (a := tlS a) (a' := tlS a') (fun k hk => ha (k + 1) (by omega)) (fun k hk => hb k (by omega))]
theorem conv_zero_left {a b : Nat → K} {n : Nat} (ha : ∀ k, a k = 0) : conv a b n = 0 := by
  induction n generalizing a with
  | zero => rw [conv_zero, ha, fzero_mul]
  | succ n ih => rw [conv_succ, ha, fzero_mul, ih (a := tlS a) (fun k => ha (k + 1)), fzero_add]
theorem conv_tl (a b : Nat → K) (n : Nat) : conv a b (n + 1) = conv a (tlS b) n + a (n + 1) * b 0 := by
  induction n generalizing a with
  | zero => rfl
  | succ n ih =>
    rw [conv_succ, ih, conv_succ a (tlS b)]
    show a 0 * b (n + 1 + 1) + (conv (tlS a) (tlS b) n + a (n + 1 + 1) * b 0) = a 0 * b (n + 1 + 1) + conv (tlS a) (tlS b) n + a (n + 1 + 1) * b 0
    rw [fadd_assoc]
theorem conv_comm (a b : Nat → K) (n : Nat) : conv a b n = conv b a n := by
  induction n generalizing a with
  | zero => rw [conv_zero, conv_zero, fmul_comm]
  | succ n ih => rw [conv_succ, conv_tl, ih (tlS a), fadd_comm, fmul_comm]
theorem conv_add_left (a b c : Nat → K) (n : Nat) : conv (fun k => a k + b k) c n = conv a c n + conv b c n := by
  induction n generalizing a b with
  | zero => rw [conv_zero, conv_zero, conv_zero, fadd_mul]
  | succ n ih =>
    rw [conv_succ, conv_succ, conv_succ]
    rw [show conv (tlS fun k => a k + b k) c n = conv (tlS a) c n + conv (tlS b) c n from ih (tlS a) (tlS b), fadd_mul]
    ac_rfl
theorem conv_smul_left (r : K) (a c : Nat → K) (n : Nat) : conv (fun k => r * a k) c n = r * conv a c n := by
  induction n generalizing a with
  | zero => rw [conv_zero, conv_zero, fmul_assoc]
  | succ n ih =>
    rw [conv_succ, conv_succ, show conv (tlS fun k => r * a k) c n = r * conv (tlS a) c n from ih (tlS a), fmul_add, fmul_assoc]
theorem conv_add_right (a b c : Nat → K) (n : Nat) : conv a (fun k => b k + c k) n = conv a b n + conv a c n := by
  rw [conv_comm, conv_add_left, conv_comm b, conv_comm c]
theorem conv_smul_right (r : K) (a c : Nat → K) (n : Nat) : conv a (fun k => r * c k) n = r * conv a c n := by
  rw [conv_comm, conv_smul_left, conv_comm]
theorem conv_neg_left (a c : Nat → K) (n : Nat) : conv (fun k => -a k) c n = -conv a c n := by
  apply fadd_right_cancel (a := conv a c n)
  rw [← conv_add_left, fneg_add]
  exact conv_zero_left fun k => fneg_add _
theorem conv_sub_left (a b c : Nat → K) (n : Nat) : conv (fun k => a k - b k) c n = conv a c n - conv b c n := by
  rw [show conv (fun k => a k - b k) c n = conv (fun k => a k + -b k) c n from rfl, conv_add_left a (fun k => -b k), conv_neg_left]; rfl
theorem conv_assoc (a b c : Nat → K) (n : Nat) : conv (conv a b) c n = conv a (conv b c) n := by
  induction n generalizing a with
  | zero => rw [conv_zero, conv_zero, conv_zero, conv_zero, fmul_assoc]
  | succ n ih =>
    have e : conv (tlS (conv a b)) c n = a 0 * conv (tlS b) c n + conv (tlS a) (conv b c) n := by
      rw [← ih, ← conv_smul_left (a 0) (tlS b), ← conv_add_left]
      exact conv_congr (fun k _ => by show conv a b (k + 1) = _; rw [conv_succ]; rfl) (fun _ _ => rfl)
    rw [conv_succ, e, conv_succ a (conv b c), conv_zero, conv_succ b c, fmul_add, fmul_assoc, fadd_assoc]
/-- the constant -/
def cst (r : K) : Nat → K := fun n => if n = 0 then r else 0
theorem conv_cst (r : K) (b : Nat → K) (n : Nat) : conv (cst r) b n = r * b n := by
  cases n with
  | zero => rfl
  | succ n =>
    rw [conv_succ, conv_zero_left (a := tlS (cst r)) (fun k => rfl), fadd_zero]
    rfl
/-- from index d on all is 0 -/
def Sup (d : Nat) (a : Nat → K) : Prop := ∀ i, d ≤ i → a i = 0
theorem Sup.mono {d e : Nat} {a : Nat → K} (h : Sup d a) (hde : d ≤ e) : Sup e a := fun i hi => h i (by omega)
theorem Sup.tl {d : Nat} {a : Nat → K} (h : Sup (d + 1) a) : Sup d (tlS a) := fun i hi => h (i + 1) (by omega)
theorem Sup.all {a : Nat → K} (h : Sup 0 a) (k : Nat) : a k = 0 := h k (Nat.zero_le _)
theorem Sup.conv {a b : Nat → K} {d e : Nat} (ha : Sup d a) (hb : Sup e b) (n : Nat) (hn : d + e ≤ n + 1) : conv a b n = 0 := by
  induction n generalizing a d with
  | zero =>
    rw [conv_zero]
    rcases Nat.eq_zero_or_pos d with h | h
    · subst h; rw [ha.all, fzero_mul]
    · rw [hb 0 (by omega), fmul_zero]
  | succ n ih =>
    rcases Nat.eq_zero_or_pos d with h | h
    · subst h; exact conv_zero_left ha.all
    · obtain ⟨d, rfl⟩ : ∃ k, d = k + 1 := ⟨d - 1, by omega⟩
      rw [conv_succ, hb (n + 1) (by omega), fmul_zero, ih ha.tl (by omega), fadd_zero]
theorem conv_top {a b : Nat → K} {d e : Nat} (ha : Sup (d + 1) a) (hb : Sup (e + 1) b) : conv a b (d + e) = a d * b e := by
  induction d generalizing a with
  | zero =>
    rw [Nat.zero_add]
    cases e with
    | zero => rfl
    | succ e => rw [conv_succ, conv_zero_left ha.tl.all, fadd_zero]
  | succ d ih =>
    rw [show d + 1 + e = (d + e) + 1 from by omega, conv_succ, hb _ (by omega), fmul_zero, fzero_add, ih ha.tl]
    rfl
/-- the value -/
def evs (x : K) : (Nat → K) → Nat → K
  | _, 0 => 0
  | f, n + 1 => f 0 + x * evs x (tlS f) n
theorem evs_succ (x : K) (f : Nat → K) (n : Nat) : evs x f (n + 1) = f 0 + x * evs x (tlS f) n := rfl
theorem evs_congr {x : K} {f g : Nat → K} {n : Nat} (h : ∀ i, i < n → f i = g i) : evs x f n = evs x g n := by
  induction n generalizing f g with
  | zero => rfl
  | succ n ih => rw [evs_succ, evs_succ, h 0 (by omega), ih (f := tlS f) (g := tlS g) (fun i hi => h (i + 1) (by omega))]
theorem evs_zero {x : K} {f : Nat → K} (h : ∀ i, f i = 0) (n : Nat) : evs x f n = 0 := by
  induction n generalizing f with
  | zero => rfl
  | succ n ih => rw [evs_succ, h, ih (f := tlS f) (fun i => h (i + 1)), fmul_zero, fadd_zero]
theorem evs_ext {x : K} {f : Nat → K} {n m : Nat} (h : Sup n f) (hm : n ≤ m) : evs x f m = evs x f n := by
  induction n generalizing f m with
  | zero => exact evs_zero h.all m
  | succ n ih =>
    obtain ⟨m, rfl⟩ : ∃ k, m = k + 1 := ⟨m - 1, by omega⟩
    rw [evs_succ, evs_succ, ih h.tl (by omega)]
theorem evs_add (x : K) (f g : Nat → K) (n : Nat) : evs x (fun k => f k + g k) n = evs x f n + evs x g n := by
  induction n generalizing f g with
  | zero => exact (fzero_add _).symm
  | succ n ih =>
    rw [evs_succ, evs_succ, evs_succ, show evs x (tlS fun k => f k + g k) n = evs x (tlS f) n + evs x (tlS g) n from ih (tlS f) (tlS g), fmul_add]
    ac_rfl
theorem evs_smul (x r : K) (f : Nat → K) (n : Nat) : evs x (fun k => r * f k) n = r * evs x f n := by
  induction n generalizing f with
  | zero => exact (fmul_zero _).symm
  | succ n ih =>
    rw [evs_succ, evs_succ, show evs x (tlS fun k => r * f k) n = r * evs x (tlS f) n from ih (tlS f), fmul_add]
    ac_rfl
theorem evs_neg (x : K) (f : Nat → K) (n : Nat) : evs x (fun k => -f k) n = -evs x f n := by
  apply fadd_right_cancel (a := evs x f n)
  rw [← evs_add, fneg_add]
  exact evs_zero (fun k => fneg_add _) n
theorem evs_sub (x : K) (f g : Nat → K) (n : Nat) : evs x (fun k => f k - g k) n = evs x f n - evs x g n := by
  rw [show evs x (fun k => f k - g k) n = evs x (fun k => f k + -g k) n from rfl, evs_add x f (fun k => -g k), evs_neg]; rfl
theorem evs_conv {x : K} {a b : Nat → K} {d e : Nat} (ha : Sup d a) (hb : Sup e b) : evs x (conv a b) (d + e) = evs x a d * evs x b e := by
  induction d generalizing a with
  | zero => rw [show evs x a 0 = 0 from rfl, fzero_mul]; exact evs_zero (fun i => conv_zero_left ha.all) _
  | succ d ih =>
    rw [show d + 1 + e = (d + e) + 1 from by omega, evs_succ, evs_succ]
    have e1 : evs x (tlS (conv a b)) (d + e) = a 0 * evs x (tlS b) (d + e) + evs x (conv (tlS a) b) (d + e) := by
      rw [← evs_smul, ← evs_add]; rfl
    have e2 : evs x b e = b 0 + x * evs x (tlS b) (d + e) := by
      rw [← evs_succ]; exact (evs_ext hb (by omega)).symm
    rw [e1, ih ha.tl, conv_zero, fadd_mul, fmul_add, e2, fmul_add]
    simp only [fmul_add]
    ac_rfl
theorem evs_top (x : K) (f : Nat → K) (n : Nat) : evs x f (n + 1) = evs x f n + f n * x ^ n := by
  induction n generalizing f with
  | zero => rw [evs_succ]; show f 0 + x * 0 = 0 + f 0 * x ^ 0; rw [fmul_zero, fpow_zero, fmul_one, fadd_comm]
  | succ n ih =>
    rw [evs_succ, ih (tlS f), evs_succ x f n, fmul_add, fpow_succ]
    show f 0 + (x * evs x (tlS f) n + x * (f (n + 1) * x ^ n)) = f 0 + x * evs x (tlS f) n + f (n + 1) * (x ^ n * x)
    ac_rfl
theorem evs_list (x : K) (f : Nat → K) (n : Nat) : ev x ((List.range n).map f) = evs x f n := by
  induction n generalizing f with
  | zero => rfl
  | succ n ih =>
    rw [List.range_succ_eq_map, List.map_cons, List.map_map, evs_succ, ← ih (tlS f)]
    rfl
/-- a sequence that is not 0 has a last index -/
theorem top_exists {a : Nat → K} {n : Nat} (h : Sup n a) (hne : ∃ i, a i ≠ 0) : ∃ d, d < n ∧ a d ≠ 0 ∧ Sup (d + 1) a := by
  induction n with
  | zero => obtain ⟨i, hi⟩ := hne; exact absurd (h.all i) hi
  | succ n ih =>
    by_cases h0 : a n = 0
    · obtain ⟨d, h1, h2, h3⟩ := ih (fun i hi => by
        by_cases e : i = n
        · rw [e]; exact h0
        · exact h i (by omega))
      exact ⟨d, by omega, h2, h3⟩
    · exact ⟨n, by omega, h0, h⟩
theorem roots_bound {f : Nat → K} {n : Nat} (hf : Sup n f) (l : List K) (hl : l.Nodup) (hn : n ≤ l.length) (hr : ∀ x ∈ l, evs x f n = 0) (i : Nat) : f i = 0 := by
  apply Classical.byContradiction
  intro hi
  obtain ⟨d, hd, h0, hs⟩ := top_exists hf ⟨i, hi⟩
  have := roots_le ((List.range (d + 1)).map f) (f d) (by rw [List.range_succ]; simp) h0 l hl (fun x hx => by
    rw [evs_list]
    have := hr x hx
    rw [evs_ext hs (by omega)] at this
    exact this)
  simp at this
  omega
/-- quotient and remainder are one -/
theorem div_unique {q q' r r' b : Nat → K} {e N : Nat} (hb : Sup (e + 1) b) (hb0 : b e ≠ 0) (hq : Sup N q) (hq' : Sup N q') (hr : Sup e r) (hr' : Sup e r')
    (h : ∀ n, conv q b n + r n = conv q' b n + r' n) : (∀ n, q n = q' n) ∧ (∀ n, r n = r' n) := by
  have hqq : ∀ n, q n = q' n := by
    intro n
    apply Classical.byContradiction
    intro hn
    have hu : Sup N (fun k => q k - q' k) := fun i hi => by show q i - q' i = 0; rw [hq i hi, hq' i hi, fsub_self]
    obtain ⟨d, _, h0, hs⟩ := top_exists hu ⟨n, fun e => hn (fsub_eq_zero.1 e)⟩
    have h1 := conv_top hs hb
    rw [conv_sub_left] at h1
    have h2 := h (d + e)
    rw [hr _ (by omega), hr' _ (by omega), fadd_zero, fadd_zero] at h2
    rw [h2, fsub_self] at h1
    exact fmul_ne h0 hb0 h1.symm
  refine ⟨hqq, fun n => ?_⟩
  have := h n
  rw [conv_congr (a := q) (a' := q') (b := b) (b' := b) (fun k _ => hqq k) (fun _ _ => rfl)] at this
  exact fadd_left_cancel this
/-- n times an element -/
def tms (n : Nat) (a : K) : K := match n with
  | 0 => 0
  | n + 1 => tms n a + a
theorem tms_add (n : Nat) (a b : K) : tms n (a + b) = tms n a + tms n b := by
  induction n with
  | zero => exact (fzero_add _).symm
  | succ n ih => show tms n (a + b) + (a + b) = (tms n a + a) + (tms n b + b); rw [ih]; ac_rfl
theorem tms_mul (n : Nat) (a b : K) : tms n (a * b) = tms n a * b := by
  induction n with
  | zero => exact (fzero_mul _).symm
  | succ n ih => show tms n (a * b) + a * b = (tms n a + a) * b; rw [ih, fadd_mul]
theorem tms_zero (n : Nat) : tms n (0 : K) = 0 := by
  induction n with
  | zero => rfl
  | succ n ih => show tms n (0 : K) + 0 = 0; rw [ih, fadd_zero]
/-- the derivative -/
def drv (a : Nat → K) : Nat → K := fun n => tms (n + 1) (a (n + 1))
theorem drv_add (a b : Nat → K) (n : Nat) : drv (fun k => a k + b k) n = drv a n + drv b n := tms_add _ _ _
/-- one place up -/
def sh (a : Nat → K) : Nat → K
  | 0 => 0
  | n + 1 => a n
theorem drv_split (a : Nat → K) (n : Nat) : drv a n = tlS a n + sh (drv (tlS a)) n := by
  cases n with
  | zero => show tms 0 (a 1) + a 1 = a 1 + 0; rw [show tms 0 (a 1) = 0 from rfl, fzero_add, fadd_zero]
  | succ n => show tms (n + 1) (a (n + 1 + 1)) + a (n + 1 + 1) = a (n + 1 + 1) + tms (n + 1) (a (n + 1 + 1)); rw [fadd_comm]
theorem conv_sh (a b : Nat → K) (n : Nat) : conv (sh a) b n = sh (conv a b) n := by
  cases n with
  | zero => exact fzero_mul _
  | succ n => rw [conv_succ]; show (0 : K) * _ + conv (tlS (sh a)) b n = conv a b n; rw [fzero_mul, fzero_add]; rfl
theorem drv_conv (a b : Nat → K) (n : Nat) : drv (conv a b) n = conv (drv a) b n + conv a (drv b) n := by
  induction n generalizing a with
  | zero =>
    show tms 0 (conv a b 1) + conv a b 1 = (tms 0 (a 1) + a 1) * b 0 + a 0 * (tms 0 (b 1) + b 1)
    have z : ∀ u : K, tms 0 u + u = u := fun u => fzero_add u
    rw [z, z, z]
    show a 0 * b 1 + a 1 * b 0 = _
    rw [fadd_comm]
  | succ n ih =>
    have e1 : drv (conv a b) (n + 1) = a 0 * drv b (n + 1) + (conv (tlS a) b (n + 1) + drv (conv (tlS a) b) n) := by
      show tms (n + 1 + 1) (conv a b (n + 1 + 1)) = _
      rw [conv_succ, tms_add]
      congr 1
      · rw [fmul_comm, tms_mul, fmul_comm]; rfl
      · show tms (n + 1) (conv (tlS a) b (n + 1)) + conv (tlS a) b (n + 1) = _
        rw [fadd_comm]; rfl
    have e2 : conv (drv a) b (n + 1) = conv (tlS a) b (n + 1) + conv (drv (tlS a)) b n := by
      rw [conv_congr (a := drv a) (a' := fun k => tlS a k + sh (drv (tlS a)) k) (b := b) (b' := b) (fun k _ => drv_split a k) (fun _ _ => rfl), conv_add_left, conv_sh]
      rfl
    rw [e1, e2, ih, conv_succ a (drv b)]
    ac_rfl
/-- sums from the front -/
def sumK (f : Nat → K) : Nat → K
  | 0 => 0
  | n + 1 => sumK f n + f n
theorem sumK_front (f : Nat → K) (n : Nat) : sumK f (n + 1) = f 0 + sumK (tlS f) n := by
  induction n with
  | zero => show (0 : K) + f 0 = f 0 + 0; rw [fadd_comm]
  | succ n ih => show sumK f (n + 1) + f (n + 1) = f 0 + (sumK (tlS f) n + tlS f n); rw [ih, fadd_assoc]; rfl
theorem sumK_congr {f g : Nat → K} {n : Nat} (h : ∀ k, k < n → f k = g k) : sumK f n = sumK g n := by
  induction n with
  | zero => rfl
  | succ n ih => show sumK f n + f n = sumK g n + g n; rw [ih fun k hk => h k (by omega), h n (by omega)]
theorem sumK_ext {f : Nat → K} {n m : Nat} (h : ∀ k, n ≤ k → k < m → f k = 0) (hm : n ≤ m) : sumK f m = sumK f n := by
  induction m with
  | zero => rw [show n = 0 from by omega]
  | succ m ih =>
    by_cases e : n = m + 1
    · rw [e]
    · show sumK f m + f m = _
      rw [h m (by omega) (by omega), fadd_zero, ih (fun k h1 h2 => h k h1 (by omega)) (by omega)]
theorem conv_sum (a b : Nat → K) (n : Nat) : conv a b n = sumK (fun k => a k * b (n - k)) (n + 1) := by
  induction n generalizing a with
  | zero => exact (fzero_add _).symm
  | succ n ih =>
    rw [sumK_front, conv_succ, ih]
    congr 1
    apply sumK_congr
    intro k hk
    show a (k + 1) * b (n - k) = a (k + 1) * b (n + 1 - (k + 1))
    rw [show n + 1 - (k + 1) = n - k from by omega]
end
end Go.Proofs.Ythpcneeidhmdkaa
