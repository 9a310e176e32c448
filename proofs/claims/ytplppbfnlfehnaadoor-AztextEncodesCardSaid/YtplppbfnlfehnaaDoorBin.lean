namespace Go.Proofs.YtplppbfnlfehnaaDoor
/-! Polynomials over GF(2) as natural numbers -/

theorem xor_mod2 (a b : Nat) : (a ^^^ b) % 2 = (a % 2 + b % 2) % 2 := by
  have h := Nat.testBit_xor a b 0
  simp only [Nat.testBit_zero] at h
  have ha := Nat.mod_two_eq_zero_or_one a
  have hb := Nat.mod_two_eq_zero_or_one b
  have hc := Nat.mod_two_eq_zero_or_one (a ^^^ b)
  rcases ha with ha | ha <;> rcases hb with hb | hb <;> rcases hc with hc | hc <;> simp [ha, hb, hc] at h ⊢

theorem xor_div2 (a b : Nat) : (a ^^^ b) / 2 = a / 2 ^^^ b / 2 := by
  apply Nat.eq_of_testBit_eq; intro i
  simp [Nat.testBit_xor, Nat.testBit_div_two]

theorem two_mul_xor (a b : Nat) : 2 * (a ^^^ b) = 2 * a ^^^ 2 * b := by
  apply Nat.eq_of_testBit_eq; intro i
  cases i with
  | zero => simp [Nat.testBit_zero, xor_mod2]
  | succ i => simp [Nat.testBit_succ, xor_div2]

/-- carryless product, by the bits of b -/
def cmulF : Nat → Nat → Nat → Nat
  | 0, _, _ => 0
  | n + 1, a, b => (if b % 2 = 1 then a else 0) ^^^ 2 * cmulF n a (b / 2)

theorem cmulF_zero_right (n a : Nat) : cmulF n a 0 = 0 := by
  induction n with
  | zero => rfl
  | succ n ih => simp [cmulF, ih]

theorem cmulF_fuel (n m a b : Nat) (hn : b ≤ n) (hm : b ≤ m) : cmulF n a b = cmulF m a b := by
  induction n generalizing m b with
  | zero => obtain rfl : b = 0 := by omega
            rw [cmulF_zero_right, cmulF_zero_right]
  | succ n ih =>
    cases m with
    | zero => obtain rfl : b = 0 := by omega
              rw [cmulF_zero_right, cmulF_zero_right]
    | succ m => simp only [cmulF]; rw [ih m (b / 2) (by omega) (by omega)]

def cmul (a b : Nat) : Nat := cmulF b a b

theorem cmul_zero (a : Nat) : cmul a 0 = 0 := rfl
theorem cmul_eq (a b : Nat) : cmul a b = (if b % 2 = 1 then a else 0) ^^^ 2 * cmul a (b / 2) := by
  by_cases hb : b = 0
  · subst hb; simp [cmul, cmulF]
  · obtain ⟨c, rfl⟩ : ∃ c, b = c + 1 := ⟨b - 1, by omega⟩
    unfold cmul
    rw [cmulF]
    rw [cmulF_fuel c ((c+1)/2) a ((c+1)/2) (by omega) (by omega)]

theorem cmul_two_mul (a b : Nat) : cmul a (2 * b) = 2 * cmul a b := by
  rw [cmul_eq]; simp

theorem cmul_one (a : Nat) : cmul a 1 = a := by
  rw [cmul_eq]; simp [cmul_zero]

theorem zero_cmul (b : Nat) : cmul 0 b = 0 := by
  induction b using Nat.strongRecOn with
  | _ b ih =>
    by_cases hb : b = 0
    · subst hb; rfl
    · rw [cmul_eq, ih (b / 2) (by omega)]; simp

theorem xor_cmul (a b c : Nat) : cmul (a ^^^ b) c = cmul a c ^^^ cmul b c := by
  induction c using Nat.strongRecOn with
  | _ c ih =>
    by_cases hc : c = 0
    · subst hc; simp [cmul_zero]
    · rw [cmul_eq (a ^^^ b), cmul_eq a c, cmul_eq b c, ih (c / 2) (by omega), two_mul_xor]
      split
      · ac_rfl
      · simp

theorem two_mul_cmul (a b : Nat) : cmul (2 * a) b = 2 * cmul a b := by
  induction b using Nat.strongRecOn with
  | _ b ih =>
    by_cases hb : b = 0
    · subst hb; simp [cmul_zero]
    · rw [cmul_eq (2 * a), cmul_eq a b, ih (b / 2) (by omega), two_mul_xor]
      split <;> simp

theorem half_xor (a : Nat) : (a % 2) ^^^ 2 * (a / 2) = a := by
  apply Nat.eq_of_testBit_eq; intro i
  cases i with
  | zero => simp [Nat.testBit_zero, xor_mod2]
  | succ i =>
    rw [Nat.testBit_succ, Nat.testBit_succ, xor_div2]
    simp

theorem cmul_xor (a b c : Nat) : cmul a (b ^^^ c) = cmul a b ^^^ cmul a c := by
  induction b using Nat.strongRecOn generalizing c with
  | _ b ih =>
    by_cases hb : b = 0
    · subst hb; simp [cmul_zero]
    · rw [cmul_eq a (b ^^^ c), cmul_eq a b, cmul_eq a c, xor_div2, ih (b / 2) (by omega), two_mul_xor, xor_mod2]
      rcases Nat.mod_two_eq_zero_or_one b with h1 | h1 <;> rcases Nat.mod_two_eq_zero_or_one c with h2 | h2
      · simp [h1, h2]
      · simp [h1, h2]; ac_rfl
      · simp [h1, h2]; ac_rfl
      · simp only [h1, h2]
        simp
        rw [show a ^^^ 2 * cmul a (b / 2) ^^^ (a ^^^ 2 * cmul a (c / 2)) = (a ^^^ a) ^^^ (2 * cmul a (b / 2) ^^^ 2 * cmul a (c / 2)) from by ac_rfl]
        simp

theorem one_cmul (b : Nat) : cmul 1 b = b := by
  induction b using Nat.strongRecOn with
  | _ b ih =>
    by_cases hb : b = 0
    · subst hb; rfl
    · rw [cmul_eq, ih (b / 2) (by omega)]
      have := half_xor b
      rcases Nat.mod_two_eq_zero_or_one b with h1 | h1 <;> simp [h1] at this ⊢ <;> exact this

theorem cmul_comm (a b : Nat) : cmul a b = cmul b a := by
  induction a using Nat.strongRecOn generalizing b with
  | _ a ih =>
    by_cases ha : a = 0
    · subst ha; rw [zero_cmul, cmul_zero]
    · conv => lhs; rw [← half_xor a, xor_cmul, two_mul_cmul, ih (a / 2) (by omega)]
      rw [cmul_eq b a]
      rcases Nat.mod_two_eq_zero_or_one a with h1 | h1 <;> simp [h1, zero_cmul, one_cmul]

theorem cmul_assoc (a b c : Nat) : cmul (cmul a b) c = cmul a (cmul b c) := by
  induction c using Nat.strongRecOn with
  | _ c ih =>
    by_cases hc : c = 0
    · subst hc; simp [cmul_zero]
    · rw [cmul_eq (cmul a b) c, cmul_eq b c, cmul_xor, cmul_two_mul, ih (c / 2) (by omega)]
      split <;> simp [cmul_zero]

instance : Std.Associative cmul := ⟨cmul_assoc⟩
instance : Std.Commutative cmul := ⟨cmul_comm⟩

/-! bit length -/
def bl : Nat → Nat := fun n => if n = 0 then 0 else n.log2 + 1

theorem bl_le_iff (a n : Nat) : bl a ≤ n ↔ a < 2 ^ n := by
  unfold bl
  split
  · subst a; simp; exact Nat.two_pow_pos n
  · rename_i h; rw [← Nat.log2_lt h]; omega
theorem lt_bl_iff (a n : Nat) : n < bl a ↔ 2 ^ n ≤ a := by
  have := bl_le_iff a n; omega
theorem lt_pow_bl (a : Nat) : a < 2 ^ bl a := (bl_le_iff a _).1 (Nat.le_refl _)
theorem pow_bl_le (a : Nat) (h : a ≠ 0) : 2 ^ (bl a - 1) ≤ a := by
  apply (lt_bl_iff a _).1
  have : 0 < bl a := (lt_bl_iff a 0).2 (by simp; omega)
  omega
theorem bl_zero : bl 0 = 0 := rfl
theorem bl_pos (a : Nat) (h : a ≠ 0) : 0 < bl a := (lt_bl_iff a 0).2 (by simp; omega)
theorem bl_eq (a n : Nat) (h1 : 2 ^ n ≤ a) (h2 : a < 2 ^ (n + 1)) : bl a = n + 1 := by
  have := (lt_bl_iff a n).2 h1
  have := (bl_le_iff a (n+1)).2 h2
  omega
theorem bl_mono (a b : Nat) (h : a ≤ b) : bl a ≤ bl b := (bl_le_iff _ _).2 (Nat.lt_of_le_of_lt h (lt_pow_bl b))
theorem lt_of_bl_lt (a b : Nat) (h : bl a < bl b) : a < b := by
  have := bl_mono b a; omega
theorem bl_two_mul (a : Nat) (h : a ≠ 0) : bl (2 * a) = bl a + 1 := by
  obtain ⟨n, hn⟩ : ∃ n, bl a = n + 1 := ⟨bl a - 1, by have := bl_pos a h; omega⟩
  rw [hn]
  have h1 := (lt_bl_iff a n).1 (by omega)
  have h2 := (bl_le_iff a (n+1)).1 (by omega)
  exact bl_eq _ _ (by rw [Nat.pow_succ]; omega) (by rw [Nat.pow_succ]; omega)
theorem testBit_bl (a n : Nat) (h : bl a = n + 1) : a.testBit n = true := by
  have h1 := (lt_bl_iff a n).1 (by omega)
  have h2 := (bl_le_iff a (n+1)).1 (by omega)
  rw [Nat.testBit_eq_decide_div_mod_eq]
  have : a / 2 ^ n = 1 := by
    apply Nat.div_eq_of_lt_le
    · omega
    · rw [Nat.pow_succ] at h2; omega
  simp [this]
theorem bl_of_testBit (a n : Nat) (h : a.testBit n = true) (hlt : a < 2 ^ (n+1)) : bl a = n + 1 := by
  refine bl_eq _ _ (Nat.ge_two_pow_of_testBit h) hlt
theorem bl_xor_le (a b n : Nat) (ha : bl a ≤ n) (hb : bl b ≤ n) : bl (a ^^^ b) ≤ n := by
  rw [bl_le_iff] at *; exact Nat.xor_lt_two_pow ha hb
/-- the two highest bits cancel -/
theorem bl_xor_lt (a b n : Nat) (ha : bl a = n + 1) (hb : bl b = n + 1) : bl (a ^^^ b) ≤ n := by
  have h : bl (a ^^^ b) ≤ n + 1 := bl_xor_le _ _ _ (by omega) (by omega)
  by_cases e : bl (a ^^^ b) = n + 1
  · have := testBit_bl _ _ e
    rw [Nat.testBit_xor, testBit_bl _ _ ha, testBit_bl _ _ hb] at this
    simp at this
  · omega
theorem bl_xor_eq (a b : Nat) (h : bl a < bl b) : bl (a ^^^ b) = bl b := by
  obtain ⟨n, hn⟩ : ∃ n, bl b = n + 1 := ⟨bl b - 1, by omega⟩
  have h1 : a < 2 ^ n := (bl_le_iff a n).1 (by omega)
  rw [hn]
  refine bl_of_testBit _ _ ?_ ?_
  · rw [Nat.testBit_xor, testBit_bl _ _ hn, Nat.testBit_lt_two_pow h1]; rfl
  · exact (bl_le_iff _ _).1 (bl_xor_le _ _ _ (by omega) (by omega))

theorem bl_cmul (a b : Nat) (ha : a ≠ 0) (hb : b ≠ 0) : bl (cmul a b) + 1 = bl a + bl b := by
  induction b using Nat.strongRecOn with
  | _ b ih =>
    have hpa := bl_pos a ha
    by_cases h1 : b = 1
    · subst h1; rw [cmul_one]; have : bl 1 = 1 := by decide
      omega
    · have h2 : b / 2 ≠ 0 := by omega
      have IH := ih (b / 2) (by omega) h2
      have hb2 : bl b = bl (b / 2) + 1 := by
        obtain ⟨n, hn⟩ : ∃ n, bl (b/2) = n + 1 := ⟨bl (b/2) - 1, by have := bl_pos _ h2; omega⟩
        have g1 := (lt_bl_iff (b/2) n).1 (by omega)
        have g2 := (bl_le_iff (b/2) (n+1)).1 (by omega)
        rw [hn]
        exact bl_eq _ _ (by rw [Nat.pow_succ]; omega) (by rw [Nat.pow_succ]; omega)
      have hpb := bl_pos _ h2
      have hne : cmul a (b / 2) ≠ 0 := by
        intro h0; rw [h0, bl_zero] at IH; omega
      rw [cmul_eq]
      have e2 := bl_two_mul _ hne
      split
      · rw [bl_xor_eq _ _ (by omega)]; omega
      · simp; omega
theorem cmul_ne_zero (a b : Nat) (ha : a ≠ 0) (hb : b ≠ 0) : cmul a b ≠ 0 := by
  intro h; have := bl_cmul a b ha hb; rw [h, bl_zero] at this
  have := bl_pos a ha; have := bl_pos b hb; omega
theorem cmul_pow (a n : Nat) : cmul a (2 ^ n) = a * 2 ^ n := by
  induction n with
  | zero => simp [cmul_one]
  | succ n ih => rw [show 2 ^ (n+1) = 2 * 2 ^ n from by rw [Nat.pow_succ]; omega, cmul_two_mul, ih, Nat.mul_left_comm]
theorem bl_shift (a n : Nat) (ha : a ≠ 0) : bl (a * 2 ^ n) = bl a + n := by
  induction n with
  | zero => simp
  | succ n ih =>
    rw [Nat.pow_succ, show a * (2 ^ n * 2) = 2 * (a * 2 ^ n) from by ac_rfl, bl_two_mul _ (by have := Nat.two_pow_pos n; exact Nat.mul_ne_zero ha (by omega)), ih]; omega

/-! divisibility and remainder -/
def cdvd (p a : Nat) : Prop := ∃ k, a = cmul p k
theorem cdvd_zero (p : Nat) : cdvd p 0 := ⟨0, (cmul_zero p).symm⟩
theorem cdvd_refl (p : Nat) : cdvd p p := ⟨1, (cmul_one p).symm⟩
theorem cdvd_xor {p a b : Nat} (h1 : cdvd p a) (h2 : cdvd p b) : cdvd p (a ^^^ b) := by
  obtain ⟨k, rfl⟩ := h1; obtain ⟨l, rfl⟩ := h2; exact ⟨k ^^^ l, (cmul_xor _ _ _).symm⟩
theorem cdvd_mul {p a : Nat} (b : Nat) (h1 : cdvd p a) : cdvd p (cmul a b) := by
  obtain ⟨k, rfl⟩ := h1; exact ⟨cmul k b, cmul_assoc _ _ _⟩
theorem cdvd_trans {p q a : Nat} (h : cdvd p q) (g : cdvd q a) : cdvd p a := by
  obtain ⟨k, rfl⟩ := h; obtain ⟨l, rfl⟩ := g; exact ⟨cmul k l, cmul_assoc _ _ _⟩
theorem cdvd_small {p a : Nat} (h : cdvd p a) (hlt : bl a < bl p) : a = 0 := by
  obtain ⟨k, rfl⟩ := h
  by_cases hk : k = 0
  · subst hk; exact cmul_zero _
  · by_cases hp : p = 0
    · subst hp; rw [bl_zero] at hlt; omega
    · have := bl_cmul p k hp hk; have := bl_pos k hk; omega

/-- one step of the division: the highest bit is cleared -/
def cstep (p q : Nat) : Nat := p ^^^ q * 2 ^ (bl p - bl q)
theorem cstep_lt (p q : Nat) (hq : q ≠ 0) (h : bl q ≤ bl p) : bl (cstep p q) < bl p := by
  have h0 := bl_pos q hq
  obtain ⟨n, hn⟩ : ∃ n, bl p = n + 1 := ⟨bl p - 1, by omega⟩
  have := bl_shift q (bl p - bl q) hq
  have := bl_xor_lt p (q * 2 ^ (bl p - bl q)) n hn (by omega)
  unfold cstep; omega
def cmodF : Nat → Nat → Nat → Nat
  | 0, p, _ => p
  | n + 1, p, q => if bl q ≤ bl p then cmodF n (cstep p q) q else p
/-- the remainder -/
def cmod (p q : Nat) : Nat := cmodF (bl p) p q
theorem cmodF_lt (n p q : Nat) (hq : q ≠ 0) (h : bl p < bl q + n) : bl (cmodF n p q) < bl q := by
  induction n generalizing p with
  | zero => simp [cmodF]; omega
  | succ n ih =>
    simp only [cmodF]
    split
    · rename_i h1; have := cstep_lt p q hq h1
      exact ih _ (by omega)
    · omega
theorem cmodF_dvd (n p q : Nat) : cdvd q (p ^^^ cmodF n p q) := by
  induction n generalizing p with
  | zero => simp [cmodF]; exact cdvd_zero _
  | succ n ih =>
    simp only [cmodF]
    split
    · have := cdvd_xor (ih (cstep p q)) (⟨2 ^ (bl p - bl q), (cmul_pow q _).symm⟩ : cdvd q (q * 2 ^ (bl p - bl q)))
      rw [show cstep p q ^^^ cmodF n (cstep p q) q ^^^ q * 2 ^ (bl p - bl q) = (cstep p q ^^^ q * 2 ^ (bl p - bl q)) ^^^ cmodF n (cstep p q) q from by ac_rfl] at this
      rw [show cstep p q ^^^ q * 2 ^ (bl p - bl q) = p from by unfold cstep; rw [Nat.xor_assoc]; simp] at this
      exact this
    · simp; exact cdvd_zero _
theorem cmod_lt (p q : Nat) (hq : q ≠ 0) : bl (cmod p q) < bl q :=
  cmodF_lt _ _ _ hq (by have := bl_pos q hq; omega)
theorem cmod_dvd (p q : Nat) : cdvd q (p ^^^ cmod p q) := cmodF_dvd _ _ _
theorem cmod_unique (p q r : Nat) (h1 : cdvd q (p ^^^ r)) (h2 : bl r < bl q) : r = cmod p q := by
  have hq : q ≠ 0 := by intro h; subst h; rw [bl_zero] at h2; omega
  have h3 := cdvd_xor h1 (cmod_dvd p q)
  rw [show p ^^^ r ^^^ (p ^^^ cmod p q) = (p ^^^ p) ^^^ (r ^^^ cmod p q) from by ac_rfl] at h3
  simp at h3
  have h4 := cdvd_small h3 (Nat.lt_of_le_of_lt (bl_xor_le r (cmod p q) (bl q - 1) (by omega) (by have := cmod_lt p q hq; omega)) (by omega))
  have h5 := congrArg (fun x => x ^^^ cmod p q) h4
  simpa [Nat.xor_assoc] using h5
theorem cmod_eq_zero (p q : Nat) (hq : q ≠ 0) : cmod p q = 0 ↔ cdvd q p := by
  constructor
  · intro h; have := cmod_dvd p q; rw [h] at this; simpa using this
  · intro h; exact (cmod_unique p q 0 (by simpa using h) (by rw [bl_zero]; exact bl_pos q hq)).symm
theorem cmod_small (p q : Nat) (h : bl p < bl q) : cmod p q = p :=
  (cmod_unique p q p (by simp; exact cdvd_zero _) h).symm

/-! irreducible -/
def Irr (p : Nat) : Prop := 2 ≤ bl p ∧ ∀ q, 2 ≤ q → 2 * (bl q - 1) ≤ bl p - 1 → ¬ cdvd q p
theorem two_le_of (q : Nat) (h0 : q ≠ 0) (h1 : q ≠ 1) : 2 ≤ q := by omega
theorem euclid (p a b : Nat) (hp : Irr p) (h : cdvd p (cmul a b)) : cdvd p a ∨ cdvd p b := by
  by_cases hpa : cdvd p a
  · exact .inl hpa
  right
  have hp0 : p ≠ 0 := by intro h; subst h; have := hp.1; rw [bl_zero] at this; omega
  have ha0 : a ≠ 0 := by intro h; subst h; exact hpa (cdvd_zero _)
  -- the least c with p | c * b
  have key : ∀ n, ∀ c, c < n → c ≠ 0 → cdvd p (cmul c b) → cdvd p b := by
    intro n
    induction n with
    | zero => intro c hc; omega
    | succ n ih =>
      intro c hc hc0 hcb
      -- reduce p by c
      have red : ∀ x, cdvd p (cmul x b) → cdvd p b ∨ cdvd c x := by
        intro x hx
        by_cases hr : cmod x c = 0
        · exact .inr ((cmod_eq_zero _ _ hc0).1 hr)
        · left
          refine ih (cmod x c) ?_ hr ?_
          · have := lt_of_bl_lt _ _ (cmod_lt x c hc0); omega
          · obtain ⟨k, hk⟩ := cmod_dvd x c
            have e : cmod x c = x ^^^ cmul c k := by rw [← hk, ← Nat.xor_assoc]; simp
            rw [e, xor_cmul]
            refine cdvd_xor hx ?_
            rw [show cmul (cmul c k) b = cmul (cmul c b) k from by ac_rfl]
            exact cdvd_mul _ hcb
      rcases red p ⟨b, rfl⟩ with h1 | h1
      · exact h1
      rcases red a h with h2 | h2
      · exact h2
      obtain ⟨k, hk⟩ := h1
      have hk0 : k ≠ 0 := by intro h; subst h; rw [cmul_zero] at hk; exact hp0 hk
      have hbl := bl_cmul c k hc0 hk0
      rw [← hk] at hbl
      by_cases c1 : c = 1
      · subst c1; rw [one_cmul] at hcb; exact hcb
      by_cases k1 : k = 1
      · subst k1; rw [cmul_one] at hk; subst hk; exact absurd h2 hpa
      exfalso
      by_cases hh : bl c ≤ bl k
      · exact hp.2 c (two_le_of c hc0 c1) (by omega) ⟨k, hk⟩
      · exact hp.2 k (two_le_of k hk0 k1) (by omega) ⟨c, by rw [cmul_comm]; exact hk⟩
  exact key (a + 1) a (by omega) ha0 h
end Go.Proofs.YtplppbfnlfehnaaDoor
