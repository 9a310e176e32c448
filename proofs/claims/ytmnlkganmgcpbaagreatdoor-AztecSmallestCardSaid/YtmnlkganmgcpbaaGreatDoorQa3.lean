import Derived.WalkKit
import Derived.Test.YtmnlkganmgcpbaaGreatDoorQa2
import Derived.Laws.CopyOwn
import Derived.Laws.CopyRow
import Derived.Deep.WholeRow
namespace Go.Proofs.YtmnlkganmgcpbaaGreatDoor
theorem xor_mod2 (a b : Nat) : (a ^^^ b) % 2 = (a % 2 + b % 2) % 2 := by
  have h := Nat.testBit_xor a b 0
  simp only [Nat.testBit_zero] at h
  have ha := Nat.mod_two_eq_zero_or_one a
  have hb := Nat.mod_two_eq_zero_or_one b
  have hc := Nat.mod_two_eq_zero_or_one (a ^^^ b)
  rcases ha with ha | ha <;> rcases hb with hb | hb <;> rcases hc with hc | hc <;> simp [ha, hb, hc] at h ⊢
theorem xor_div2 (a b : Nat) : (a ^^^ b) / 2 = a / 2 ^^^ b / 2 := by
  apply Nat.eq_of_testBit_eq; intro i
  simp [Nat.testBit_xor, Nat.testBit_div_two]
theorem two_mul_xor (a b : Nat) : 2 * (a ^^^ b) = 2 * a ^^^ 2 * b := by
  apply Nat.eq_of_testBit_eq; intro i
  cases i with
  | zero => simp [Nat.testBit_zero, xor_mod2]
  | succ i => simp [Nat.testBit_succ, xor_div2]
def cmulF : Nat → Nat → Nat → Nat
  | 0, _, _ => 0
  | n + 1, a, b => (if b % 2 = 1 then a else 0) ^^^ 2 * cmulF n a (b / 2)
theorem cmulF_zero_right (n a : Nat) : cmulF n a 0 = 0 := by
  induction n with
  | zero => rfl
  | succ n ih => simp [cmulF, ih]
theorem cmulF_fuel (n m a b : Nat) (hn : b ≤ n) (hm : b ≤ m) : cmulF n a b = cmulF m a b := by
  induction n generalizing m b with
  | zero => obtain rfl : b = 0 := by omega
            rw [cmulF_zero_right, cmulF_zero_right]
  | succ n ih =>
    cases m with
    | zero => obtain rfl : b = 0 := by omega
              rw [cmulF_zero_right, cmulF_zero_right]
    | succ m => simp only [cmulF]; rw [ih m (b / 2) (by omega) (by omega)]
def cmul (a b : Nat) : Nat := cmulF b a b
theorem cmul_zero (a : Nat) : cmul a 0 = 0 := rfl
theorem cmul_eq (a b : Nat) : cmul a b = (if b % 2 = 1 then a else 0) ^^^ 2 * cmul a (b / 2) := by
  by_cases hb : b = 0
  · subst hb; simp [cmul, cmulF]
  · obtain ⟨c, rfl⟩ : ∃ c, b = c + 1 := ⟨b - 1, by omega⟩
    unfold cmul
    rw [cmulF]
    rw [cmulF_fuel c ((c+1)/2) a ((c+1)/2) (by omega) (by omega)]
theorem cmul_two_mul (a b : Nat) : cmul a (2 * b) = 2 * cmul a b := by
  rw [cmul_eq]; simp
theorem cmul_one (a : Nat) : cmul a 1 = a := by
  rw [cmul_eq]; simp [cmul_zero]
theorem zero_cmul (b : Nat) : cmul 0 b = 0 := by
  induction b using Nat.strongRecOn with
  | _ b ih =>
    by_cases hb : b = 0
    · subst hb; rfl
    · rw [cmul_eq, ih (b / 2) (by omega)]; simp
theorem xor_cmul (a b c : Nat) : cmul (a ^^^ b) c = cmul a c ^^^ cmul b c := by
  induction c using Nat.strongRecOn with
  | _ c ih =>
    by_cases hc : c = 0
    · subst hc; simp [cmul_zero]
    · rw [cmul_eq (a ^^^ b), cmul_eq a c, cmul_eq b c, ih (c / 2) (by omega), two_mul_xor]
      split
      · ac_rfl
      · simp
theorem two_mul_cmul (a b : Nat) : cmul (2 * a) b = 2 * cmul a b := by
  induction b using Nat.strongRecOn with
  | _ b ih =>
    by_cases hb : b = 0
    · subst hb; simp [cmul_zero]
    · rw [cmul_eq (2 * a), cmul_eq a b, ih (b / 2) (by omega), two_mul_xor]
      split <;> simp
theorem half_xor (a : Nat) : (a % 2) ^^^ 2 * (a / 2) = a := by
  apply Nat.eq_of_testBit_eq; intro i
  cases i with
  | zero => simp [Nat.testBit_zero, xor_mod2]
  | succ i =>
    rw [Nat.testBit_succ, Nat.testBit_succ, xor_div2]
    simp
theorem cmul_xor (a b c : Nat) : cmul a (b ^^^ c) = cmul a b ^^^ cmul a c := by
  induction b using Nat.strongRecOn generalizing c with
  | _ b ih =>
    by_cases hb : b = 0
    · subst hb; simp [cmul_zero]
    · rw [cmul_eq a (b ^^^ c), cmul_eq a b, cmul_eq a c, xor_div2, ih (b / 2) (by omega), two_mul_xor, xor_mod2]
      rcases Nat.mod_two_eq_zero_or_one b with h1 | h1 <;> rcases Nat.mod_two_eq_zero_or_one c with h2 | h2
      · simp [h1, h2]
      · simp [h1, h2]; ac_rfl
      · simp [h1, h2]; ac_rfl
      · simp only [h1, h2]
        simp
        rw [show a ^^^ 2 * cmul a (b / 2) ^^^ (a ^^^ 2 * cmul a (c / 2)) = (a ^^^ a) ^^^ (2 * cmul a (b / 2) ^^^ 2 * cmul a (c / 2)) from by ac_rfl]
        simp
theorem one_cmul (b : Nat) : cmul 1 b = b := by
  induction b using Nat.strongRecOn with
  | _ b ih =>
    by_cases hb : b = 0
    · subst hb; rfl
    · rw [cmul_eq, ih (b / 2) (by omega)]
      have := half_xor b
      rcases Nat.mod_two_eq_zero_or_one b with h1 | h1 <;> simp [h1] at this ⊢ <;> exact this
theorem cmul_comm (a b : Nat) : cmul a b = cmul b a := by
  induction a using Nat.strongRecOn generalizing b with
  | _ a ih =>
    by_cases ha : a = 0
    · subst ha; rw [zero_cmul, cmul_zero]
    · conv => lhs; rw [← half_xor a, xor_cmul, two_mul_cmul, ih (a / 2) (by omega)]
      rw [cmul_eq b a]
      rcases Nat.mod_two_eq_zero_or_one a with h1 | h1 <;> simp [h1, zero_cmul, one_cmul]
theorem cmul_assoc (a b c : Nat) : cmul (cmul a b) c = cmul a (cmul b c) := by
  induction c using Nat.strongRecOn with
  | _ c ih =>
    by_cases hc : c = 0
    · subst hc; simp [cmul_zero]
    · rw [cmul_eq (cmul a b) c, cmul_eq b c, cmul_xor, cmul_two_mul, ih (c / 2) (by omega)]
      split <;> simp [cmul_zero]
instance : Std.Associative cmul := ⟨cmul_assoc⟩
instance : Std.Commutative cmul := ⟨cmul_comm⟩
def bl : Nat → Nat := fun n => if n = 0 then 0 else n.log2 + 1
theorem bl_le_iff (a n : Nat) : bl a ≤ n ↔ a < 2 ^ n := by
  unfold bl
  split
  · subst a; simp; exact Nat.two_pow_pos n
  · rename_i h; rw [← Nat.log2_lt h]; omega
theorem lt_bl_iff (a n : Nat) : n < bl a ↔ 2 ^ n ≤ a := by
  have := bl_le_iff a n; omega
theorem lt_pow_bl (a : Nat) : a < 2 ^ bl a := (bl_le_iff a _).1 (Nat.le_refl _)
theorem pow_bl_le (a : Nat) (h : a ≠ 0) : 2 ^ (bl a - 1) ≤ a := by
  apply (lt_bl_iff a _).1
  have : 0 < bl a := (lt_bl_iff a 0).2 (by simp; omega)
  omega
theorem bl_zero : bl 0 = 0 := rfl
theorem bl_pos (a : Nat) (h : a ≠ 0) : 0 < bl a := (lt_bl_iff a 0).2 (by simp; omega)
theorem bl_eq (a n : Nat) (h1 : 2 ^ n ≤ a) (h2 : a < 2 ^ (n + 1)) : bl a = n + 1 := by
  have := (lt_bl_iff a n).2 h1
  have := (bl_le_iff a (n+1)).2 h2
  omega
theorem bl_mono (a b : Nat) (h : a ≤ b) : bl a ≤ bl b := (bl_le_iff _ _).2 (Nat.lt_of_le_of_lt h (lt_pow_bl b))
theorem lt_of_bl_lt (a b : Nat) (h : bl a < bl b) : a < b := by
  have := bl_mono b a; omega
theorem bl_two_mul (a : Nat) (h : a ≠ 0) : bl (2 * a) = bl a + 1 := by
  obtain ⟨n, hn⟩ : ∃ n, bl a = n + 1 := ⟨bl a - 1, by have := bl_pos a h; omega⟩
  rw [hn]
  have h1 := (lt_bl_iff a n).1 (by omega)
  have h2 := (bl_le_iff a (n+1)).1 (by omega)
  exact bl_eq _ _ (by rw [Nat.pow_succ]; omega) (by rw [Nat.pow_succ]; omega)
theorem testBit_bl (a n : Nat) (h : bl a = n + 1) : a.testBit n = true := by
  have h1 := (lt_bl_iff a n).1 (by omega)
  have h2 := (bl_le_iff a (n+1)).1 (by omega)
  rw [Nat.testBit_eq_decide_div_mod_eq]
  have : a / 2 ^ n = 1 := by
    apply Nat.div_eq_of_lt_le
    · omega
    · rw [Nat.pow_succ] at h2; omega
  simp [this]
theorem bl_of_testBit (a n : Nat) (h : a.testBit n = true) (hlt : a < 2 ^ (n+1)) : bl a = n + 1 := by
  refine bl_eq _ _ (Nat.ge_two_pow_of_testBit h) hlt
theorem bl_xor_le (a b n : Nat) (ha : bl a ≤ n) (hb : bl b ≤ n) : bl (a ^^^ b) ≤ n := by
  rw [bl_le_iff] at *; exact Nat.xor_lt_two_pow ha hb
theorem bl_xor_lt (a b n : Nat) (ha : bl a = n + 1) (hb : bl b = n + 1) : bl (a ^^^ b) ≤ n := by
  have h : bl (a ^^^ b) ≤ n + 1 := bl_xor_le _ _ _ (by omega) (by omega)
  by_cases e : bl (a ^^^ b) = n + 1
  · have := testBit_bl _ _ e
    rw [Nat.testBit_xor, testBit_bl _ _ ha, testBit_bl _ _ hb] at this
    simp at this
  · omega
theorem bl_xor_eq (a b : Nat) (h : bl a < bl b) : bl (a ^^^ b) = bl b := by
  obtain ⟨n, hn⟩ : ∃ n, bl b = n + 1 := ⟨bl b - 1, by omega⟩
  have h1 : a < 2 ^ n := (bl_le_iff a n).1 (by omega)
  rw [hn]
  refine bl_of_testBit _ _ ?_ ?_
  · rw [Nat.testBit_xor, testBit_bl _ _ hn, Nat.testBit_lt_two_pow h1]; rfl
  · exact (bl_le_iff _ _).1 (bl_xor_le _ _ _ (by omega) (by omega))
theorem bl_cmul (a b : Nat) (ha : a ≠ 0) (hb : b ≠ 0) : bl (cmul a b) + 1 = bl a + bl b := by
  induction b using Nat.strongRecOn with
  | _ b ih =>
    have hpa := bl_pos a ha
    by_cases h1 : b = 1
    · subst h1; rw [cmul_one]; have : bl 1 = 1 := by decide
      omega
    · have h2 : b / 2 ≠ 0 := by omega
      have IH := ih (b / 2) (by omega) h2
      have hb2 : bl b = bl (b / 2) + 1 := by
        obtain ⟨n, hn⟩ : ∃ n, bl (b/2) = n + 1 := ⟨bl (b/2) - 1, by have := bl_pos _ h2; omega⟩
        have g1 := (lt_bl_iff (b/2) n).1 (by omega)
        have g2 := (bl_le_iff (b/2) (n+1)).1 (by omega)
        rw [hn]
        exact bl_eq _ _ (by rw [Nat.pow_succ]; omega) (by rw [Nat.pow_succ]; omega)
      have hpb := bl_pos _ h2
      have hne : cmul a (b / 2) ≠ 0 := by
        intro h0; rw [h0, bl_zero] at IH; omega
      rw [cmul_eq]
      have e2 := bl_two_mul _ hne
      split
      · rw [bl_xor_eq _ _ (by omega)]; omega
      · simp; omega
theorem cmul_pow (a n : Nat) : cmul a (2 ^ n) = a * 2 ^ n := by
  induction n with
  | zero => simp [cmul_one]
  | succ n ih => rw [show 2 ^ (n+1) = 2 * 2 ^ n from by rw [Nat.pow_succ]; omega, cmul_two_mul, ih, Nat.mul_left_comm]
theorem bl_shift (a n : Nat) (ha : a ≠ 0) : bl (a * 2 ^ n) = bl a + n := by
  induction n with
  | zero => simp
  | succ n ih =>
    rw [Nat.pow_succ, show a * (2 ^ n * 2) = 2 * (a * 2 ^ n) from by ac_rfl, bl_two_mul _ (by have := Nat.two_pow_pos n; exact Nat.mul_ne_zero ha (by omega)), ih]; omega
def cdvd (p a : Nat) : Prop := ∃ k, a = cmul p k
theorem cdvd_zero (p : Nat) : cdvd p 0 := ⟨0, (cmul_zero p).symm⟩
theorem cdvd_refl (p : Nat) : cdvd p p := ⟨1, (cmul_one p).symm⟩
theorem cdvd_xor {p a b : Nat} (h1 : cdvd p a) (h2 : cdvd p b) : cdvd p (a ^^^ b) := by
  obtain ⟨k, rfl⟩ := h1; obtain ⟨l, rfl⟩ := h2; exact ⟨k ^^^ l, (cmul_xor _ _ _).symm⟩
theorem cdvd_mul {p a : Nat} (b : Nat) (h1 : cdvd p a) : cdvd p (cmul a b) := by
  obtain ⟨k, rfl⟩ := h1; exact ⟨cmul k b, cmul_assoc _ _ _⟩
theorem cdvd_small {p a : Nat} (h : cdvd p a) (hlt : bl a < bl p) : a = 0 := by
  obtain ⟨k, rfl⟩ := h
  by_cases hk : k = 0
  · subst hk; exact cmul_zero _
  · by_cases hp : p = 0
    · subst hp; rw [bl_zero] at hlt; omega
    · have := bl_cmul p k hp hk; have := bl_pos k hk; omega
def cstep (p q : Nat) : Nat := p ^^^ q * 2 ^ (bl p - bl q)
theorem cstep_lt (p q : Nat) (hq : q ≠ 0) (h : bl q ≤ bl p) : bl (cstep p q) < bl p := by
  have h0 := bl_pos q hq
  obtain ⟨n, hn⟩ : ∃ n, bl p = n + 1 := ⟨bl p - 1, by omega⟩
  have := bl_shift q (bl p - bl q) hq
  have := bl_xor_lt p (q * 2 ^ (bl p - bl q)) n hn (by omega)
  unfold cstep; omega
def cmodF : Nat → Nat → Nat → Nat
  | 0, p, _ => p
  | n + 1, p, q => if bl q ≤ bl p then cmodF n (cstep p q) q else p
def cmod (p q : Nat) : Nat := cmodF (bl p) p q
theorem cmodF_lt (n p q : Nat) (hq : q ≠ 0) (h : bl p < bl q + n) : bl (cmodF n p q) < bl q := by
  induction n generalizing p with
  | zero => simp [cmodF]; omega
  | succ n ih =>
    simp only [cmodF]
    split
    · rename_i h1; have := cstep_lt p q hq h1
      exact ih _ (by omega)
    · omega
theorem cmodF_dvd (n p q : Nat) : cdvd q (p ^^^ cmodF n p q) := by
  induction n generalizing p with
  | zero => simp [cmodF]; exact cdvd_zero _
  | succ n ih =>
    simp only [cmodF]
    split
    · have := cdvd_xor (ih (cstep p q)) (⟨2 ^ (bl p - bl q), (cmul_pow q _).symm⟩ : cdvd q (q * 2 ^ (bl p - bl q)))
      rw [show cstep p q ^^^ cmodF n (cstep p q) q ^^^ q * 2 ^ (bl p - bl q) = (cstep p q ^^^ q * 2 ^ (bl p - bl q)) ^^^ cmodF n (cstep p q) q from by ac_rfl] at this
      rw [show cstep p q ^^^ q * 2 ^ (bl p - bl q) = p from by unfold cstep; rw [Nat.xor_assoc]; simp] at this
      exact this
    · simp; exact cdvd_zero _
theorem cmod_lt (p q : Nat) (hq : q ≠ 0) : bl (cmod p q) < bl q :=
  cmodF_lt _ _ _ hq (by have := bl_pos q hq; omega)
theorem cmod_dvd (p q : Nat) : cdvd q (p ^^^ cmod p q) := cmodF_dvd _ _ _
theorem cmod_unique (p q r : Nat) (h1 : cdvd q (p ^^^ r)) (h2 : bl r < bl q) : r = cmod p q := by
  have hq : q ≠ 0 := by intro h; subst h; rw [bl_zero] at h2; omega
  have h3 := cdvd_xor h1 (cmod_dvd p q)
  rw [show p ^^^ r ^^^ (p ^^^ cmod p q) = (p ^^^ p) ^^^ (r ^^^ cmod p q) from by ac_rfl] at h3
  simp at h3
  have h4 := cdvd_small h3 (Nat.lt_of_le_of_lt (bl_xor_le r (cmod p q) (bl q - 1) (by omega) (by have := cmod_lt p q hq; omega)) (by omega))
  have h5 := congrArg (fun x => x ^^^ cmod p q) h4
  simpa [Nat.xor_assoc] using h5
theorem cmod_eq_zero (p q : Nat) (hq : q ≠ 0) : cmod p q = 0 ↔ cdvd q p := by
  constructor
  · intro h; have := cmod_dvd p q; rw [h] at this; simpa using this
  · intro h; exact (cmod_unique p q 0 (by simpa using h) (by rw [bl_zero]; exact bl_pos q hq)).symm
theorem cmod_small (p q : Nat) (h : bl p < bl q) : cmod p q = p :=
  (cmod_unique p q p (by simp; exact cdvd_zero _) h).symm
def Irr (p : Nat) : Prop := 2 ≤ bl p ∧ ∀ q, 2 ≤ q → 2 * (bl q - 1) ≤ bl p - 1 → ¬ cdvd q p
theorem two_le_of (q : Nat) (h0 : q ≠ 0) (h1 : q ≠ 1) : 2 ≤ q := by omega
theorem euclid (p a b : Nat) (hp : Irr p) (h : cdvd p (cmul a b)) : cdvd p a ∨ cdvd p b := by
  by_cases hpa : cdvd p a
  · exact .inl hpa
  right
  have hp0 : p ≠ 0 := by intro h; subst h; have := hp.1; rw [bl_zero] at this; omega
  have ha0 : a ≠ 0 := by intro h; subst h; exact hpa (cdvd_zero _)
  -- the least c with p | c * b
  have key : ∀ n, ∀ c, c < n → c ≠ 0 → cdvd p (cmul c b) → cdvd p b := by
    intro n
    induction n with
    | zero => intro c hc; omega
    | succ n ih =>
      intro c hc hc0 hcb
      -- reduce p by c
      have red : ∀ x, cdvd p (cmul x b) → cdvd p b ∨ cdvd c x := by
        intro x hx
        by_cases hr : cmod x c = 0
        · exact .inr ((cmod_eq_zero _ _ hc0).1 hr)
        · left
          refine ih (cmod x c) ?_ hr ?_
          · have := lt_of_bl_lt _ _ (cmod_lt x c hc0); omega
          · obtain ⟨k, hk⟩ := cmod_dvd x c
            have e : cmod x c = x ^^^ cmul c k := by rw [← hk, ← Nat.xor_assoc]; simp
            rw [e, xor_cmul]
            refine cdvd_xor hx ?_
            rw [show cmul (cmul c k) b = cmul (cmul c b) k from by ac_rfl]
            exact cdvd_mul _ hcb
      rcases red p ⟨b, rfl⟩ with h1 | h1
      · exact h1
      rcases red a h with h2 | h2
      · exact h2
      obtain ⟨k, hk⟩ := h1
      have hk0 : k ≠ 0 := by intro h; subst h; rw [cmul_zero] at hk; exact hp0 hk
      have hbl := bl_cmul c k hc0 hk0
      rw [← hk] at hbl
      by_cases c1 : c = 1
      · subst c1; rw [one_cmul] at hcb; exact hcb
      by_cases k1 : k = 1
      · subst k1; rw [cmul_one] at hk; subst hk; exact absurd h2 hpa
      exfalso
      by_cases hh : bl c ≤ bl k
      · exact hp.2 c (two_le_of c hc0 c1) (by omega) ⟨k, hk⟩
      · exact hp.2 k (two_le_of k hk0 k1) (by omega) ⟨c, by rw [cmul_comm]; exact hk⟩
  exact key (a + 1) a (by omega) ha0 h
end Go.Proofs.YtmnlkganmgcpbaaGreatDoor
namespace Go.Proofs.YtmnlkganmgcpbaaGreatDoor
theorem ofInt_i64 (a : Nat) (ha : a < 2 ^ 62) : (BitVec.ofInt 64 (a : Int)).toNat = a := by
  rw [BitVec.ofInt_natCast, BitVec.toNat_ofNat]; exact Nat.mod_eq_of_lt (by omega)
theorem i64_xor_nat (a b : Nat) (ha : a < 2 ^ 62) (hb : b < 2 ^ 62) : bits .xor .i64 (a : Int) (b : Int) = ((a ^^^ b : Nat) : Int) := by
  have hx : a ^^^ b < 2 ^ 62 := Nat.xor_lt_two_pow ha hb
  show IntKind.i64.wrap ((BitVec.ofInt 64 (a : Int) ^^^ BitVec.ofInt 64 (b : Int)).toNat : Int) = _
  rw [BitVec.toNat_xor, ofInt_i64 a ha, ofInt_i64 b hb, IntKind.wrap_i64]
  omega
theorem i64_and_nat (a b : Nat) (ha : a < 2 ^ 62) (hb : b < 2 ^ 62) : bits .and .i64 (a : Int) (b : Int) = ((a &&& b : Nat) : Int) := by
  have hx : a &&& b < 2 ^ 62 := Nat.and_lt_two_pow _ hb
  show IntKind.i64.wrap ((BitVec.ofInt 64 (a : Int) &&& BitVec.ofInt 64 (b : Int)).toNat : Int) = _
  rw [BitVec.toNat_and, ofInt_i64 a ha, ofInt_i64 b hb, IntKind.wrap_i64]
  omega
theorem i64_and_one (a : Nat) (ha : a < 2 ^ 62) : bits .and .i64 (a : Int) 1 = ((a % 2 : Nat) : Int) := by
  have := i64_and_nat a 1 ha (by decide)
  rw [Nat.and_one_is_mod] at this; exact this
end Go.Proofs.YtmnlkganmgcpbaaGreatDoor
namespace Go.Proofs.YtmnlkganmgcpbaaGreatDoor
open Go.RowKit
set_option linter.unusedVariables false
def bitV (v i : Nat) : Bool := v / 2 ^ i % 2 == 1
def lowF (v n : Nat) : Nat → List Bool
  | 0 => []
  | k + 1 => lowF v n k ++ [bitV v (n - 1 - k)]
def lowB (v n : Nat) : List Bool := lowF v n n
theorem lowF_length (v n k : Nat) : (lowF v n k).length = k := by
  induction k with
  | zero => rfl
  | succ k ih => unfold lowF; rw [List.length_append, ih]; rfl
theorem bit_fact (v i : Nat) (hv : v ≤ 1000000000000) : (bits BinOp.and IntKind.i64 ((v : Int) / 2 ^ i) 1 == 1) = bitV v i := by
  have e : ((v : Int) / 2 ^ i) = ((v / 2 ^ i : Nat) : Int) := by simp
  have hlt : v / 2 ^ i < 2 ^ 62 := Nat.lt_of_le_of_lt (Nat.div_le_self _ _) (by omega)
  rw [e, i64_and_one _ hlt]
  unfold bitV
  generalize v / 2 ^ i % 2 = x
  by_cases h : x = 1
  · subst h; rfl
  · rw [beq_eq_false_iff_ne.2 h, beq_eq_false_iff_ne]; omega
set_option maxRecDepth 100000 in
set_option maxHeartbeats 2000000 in
theorem appendLow_any (base : Nat) (bs : List Bool) (u : Value) (v n : Nat) (w : World) (hv : v ≤ 1000000000000) (hn : n ≤ 62) (hl : bs.length ≤ 100000000) (hb : base ≤ w.heap.size) (ho : w.ownsRow base 4 1 u bs.length (bs.map vB)) :
    Calls Tryz.prog 108 #[u, .int .i64 v, .int .i64 n] w fun e w' => ∃ u', e = .returned u' ∧ w'.ownsRow base 4 1 u' (bs ++ lowB v n).length ((bs ++ lowB v n).map vB) ∧ Below base w w' := by
  obtain ⟨i0, hi, hz0, hz1, hz2⟩ := info_parts boolInfo
  have HO := Lib.hid ho
  clear ho
  go_enter Tryz.func108, Tryz.ntmps108
  go_wp2
  go_loopw [0, 7] (fun ov iv wr => ∃ (k : Nat) (j : Int), k ≤ n ∧ iv = .int .i64 j ∧ Hid (j = (n : Int) - 1 - k) ∧ Hid (Below base w wr) ∧ Hid (wr.ownsRow base 4 1 ov (bs ++ lowF v n k).length ((bs ++ lowF v n k).map vB))) (fun _ iv _ => (intOf iv + 1).toNat)
  case atStart => exact ⟨0, _, Nat.zero_le _, rfl, by show _ = _; omega, Below.refl _ _, by show World.ownsRow _ _ _ _ _ _ _; rw [show lowF v n 0 = [] from rfl, List.append_nil]; exact HO.out⟩
  case round =>
    obtain ⟨k, j, hk, rfl, hj, hW, hO⟩ := hrel
    by_cases hlt : k < n
    · obtain ⟨i, hi1⟩ : ∃ i, i = n - 1 - k := ⟨_, rfl⟩
      obtain rfl : j = (i : Int) := by have := hj.out; omega
      have HI := Lib.hid hi1
      have hi2 : i ≤ 61 := by omega
      clear hi1
      have hbit := bit_fact v i hv
      have HST : Hid (lowF v n (k + 1) = lowF v n k ++ [bitV v i]) := by show _ = _; rw [HI.out]; rfl
      have HLE : Hid ((bs ++ lowF v n k).length ≤ 100000062) := by show _ ≤ _; rw [List.length_append, lowF_length]; omega
      generalize bitV v i = y at *
      have HSZ : Hid (base ≤ wr.heap.size) := Nat.le_trans hb hW.out.size
      go_wp2_with (at_builtin; refine wpList_append_G (f := vB) (d := false) oneB rfl _ _ _ rfl base 4 i0 _ 1 Tryz.underlying26 hi hz0 hz1 hz2 rfl _ _ (bs ++ lowF v n k) rfl (ownsRow_alloc' hO.out _) (some ⟨wr.heap.size, 0, none⟩) 1 1 [y] rfl rfl (RG.one _ _ _ _ rfl) (by unfold maxLen; have := HLE.out; omega) (by have := HLE.out; omega) (by have := HSZ.out; simp; omega) ?_; intro v5 w5 hown hg; have HB5 : Hid (Below base w w5) := ((hW.out.alloc HSZ.out _).grown hg (by have := HSZ.out; simp; omega) (fun q hq => (hO.out.lt q hq).1)); have HO5 := Lib.hid hown; clear hown hg)
      exact ⟨⟨k + 1, _, by omega, rfl, by have := HI.out; show _ = _; omega, HB5.out, by
        show World.ownsRow _ _ _ _ _ _ _
        rw [HST.out, ← List.append_assoc]
        have e1 : (bs ++ lowF v n k ++ [y]).length = (bs ++ lowF v n k).length + 1 := List.length_append
        rw [e1]; exact HO5.out⟩, by simp [intOf]⟩
    · obtain rfl : k = n := by omega
      have hj0 : decide ((0 : Int) ≤ j) = false := by have := hj.out; simp; omega
      go_wp2
      go_ret
      exact ⟨_, rfl, hO.out, hW.out⟩
theorem boolSz : (Tryz.prog.info? 4).map (·.size) = some 1 := by kernel_rfl
theorem lowB_length (v n : Nat) : (lowB v n).length = n := lowF_length v n n
set_option maxRecDepth 100000 in
set_option maxHeartbeats 2000000 in
theorem Append0_any (v n : Nat) (w : World) (hv : v ≤ 1000000000000) (hn : n ≤ 62) :
    Calls Tryz.prog 59 #[.slice none 0 0, .int .i64 v, .int .i64 n] w (RT vB false w (lowB v n, 0)) := by
  obtain ⟨i0, hi, hz0, hz1, hz2⟩ := info_parts boolInfo
  have hcp : ∀ w1 : World, (Builtin.copy_ #[26, 26] 3 #[.slice (some ⟨w.heap.size, 0, none⟩) 0 n, .slice none 0 0]).run Tryz.prog w1 = .ok (goInt 0) w1 := fun w1 => run_copy_none w1 _ _ _ 4 _ _ _ _ _ _ Tryz.underlying26 boolSz (by simp)
  go_enter Tryz.func59, Tryz.ntmps59
  go_wp2_with (first
    | (at_make; refine wpList_make_own _ rfl _ _ _ rfl w.heap.size 4 i0 _ 1 Tryz.underlying26 hi hz0 hz1 .i64 .i64 _ n rfl rfl (by first | rfl | omega) (by rw [hz2]; omega) (by unfold maxLen; omega) (Nat.le_refl _) ?_; intro w1 hown hg; have HO1 := Lib.hid hown; have HB1 : Hid (Below w.heap.size w w1) := (Below.refl _ _).grown hg (Nat.le_refl _) (fun q hq => by cases hq); clear hown hg)
    | (go_at_call 108; refine (appendLow_any w.heap.size [] _ v n _ hv hn (by simp) HB1.out.size HO1.out).mono ?_; rintro e w2 ⟨u2, rfl, ho2, hb2⟩; have HO2 := Lib.hid ho2; have HB2 := Lib.hid hb2; clear ho2 hb2))
  go_ret2
  exact RT.mk rfl (by have h := HO2.out; rw [List.nil_append] at h; exact SG.of_own h) (HB1.out.trans HB2.out)
end Go.Proofs.YtmnlkganmgcpbaaGreatDoor
namespace Go.Proofs.YtmnlkganmgcpbaaGreatDoor
open Go.RowKit
set_option linter.unusedVariables false
def numF (b : List Bool) (at_ : Nat) : Nat → Nat
  | 0 => 0
  | k + 1 => 2 * numF b at_ k + (if b.getD (at_ + k) false then 1 else 0)
theorem numF_lt (b : List Bool) (k j : Nat) : numF b k j < 2 ^ j := by
  induction j with
  | zero => simp [numF]
  | succ j ih =>
    have : (if b.getD (k + j) false then 1 else 0) ≤ 1 := by split <;> omega
    show 2 * numF b k j + (if b.getD (k + j) false then 1 else 0) < 2 ^ (j + 1)
    rw [Nat.pow_succ]; omega
theorem or_one (x : Nat) (hx : x ≤ 2199023255552) : bits BinOp.or IntKind.i64 ((x : Int) * 2) 1 = ((2 * x + 1 : Nat) : Int) := by
  have e : ((x : Int) * 2) = ((2 * x : Nat) : Int) := by omega
  have e2 : 2 * x ||| 1 = 2 * x + 1 := by
    have := Nat.two_pow_add_eq_or_of_lt (i := 1) (b := 1) (by decide) x
    simpa using this.symm
  rw [e]
  show IntKind.i64.wrap ((BitVec.ofInt 64 ((2 * x : Nat) : Int) ||| BitVec.ofInt 64 ((1 : Nat) : Int)).toNat : Int) = _
  rw [BitVec.toNat_or, ofInt_i64 _ (by omega), ofInt_i64 1 (by decide), e2, IntKind.wrap_i64]
  omega
set_option maxRecDepth 100000 in
set_option maxHeartbeats 2000000 in
theorem number_any (A : Option Addr) (n c : Nat) (b : List Bool) (w : World) (hn : n ≤ 40) (hb : SR vB false w A n c b) :
    Calls Tryz.prog 109 #[.slice A n c] w fun e w' => e = .returned (.int .i64 ((numF b 0 n : Nat) : Int)) ∧ w' = w := by
  have HB := Lib.hid hb
  have HN : Hid (n = b.length) := hb.hn
  clear hb
  go_enter Tryz.func109, Tryz.ntmps109
  go_wp2
  go_loop [3, 8] (fun vv iv => ∃ k x : Nat, k ≤ n ∧ iv = .int .i64 k ∧ vv = .int .i64 x ∧ x ≤ 2199023255552 ∧ Hid (x = numF b 0 k)) (fun _ iv => n - (intOf iv).toNat)
  case atStart => exact ⟨0, 0, Nat.zero_le _, rfl, rfl, by omega, rfl⟩
  case round =>
    obtain ⟨k, x, hk, rfl, rfl, hx, HX⟩ := hrel
    by_cases hlt : k < n
    · obtain ⟨ad, rfl, hadw, hca⟩ := HB.out.rd (by rw [← HN.out]; omega)
      have hx1 := hca k (by rw [← HN.out]; exact hlt)
      clear hca
      have HS : Hid (∀ y, b.getD k false = y → numF b 0 (k + 1) = 2 * x + (if y then 1 else 0)) := by
        show ∀ y, _
        rintro y rfl
        rw [HX.out]
        show 2 * _ + (if b.getD (0 + k) false then 1 else 0) = _
        rw [Nat.zero_add]
      generalize b.getD k false = y at *
      cases y with
      | true =>
        have ho := or_one x hx
        have HS2 := Lib.hid (HS.out true rfl)
        have hb2 : 2 * x + 1 ≤ 2199023255552 := by
          have h1 := numF_lt b 0 (k + 1)
          rw [HS2.out] at h1
          have h2 : 2 ^ (k + 1) ≤ 2 ^ 40 := Nat.pow_le_pow_right (by omega) (by omega)
          have h3 : (2 : Nat) ^ 40 = 1099511627776 := by decide
          simp only [if_true] at h1
          omega
        go_wp2
        exact ⟨⟨k + 1, 2 * x + 1, by omega, by go_num, rfl, hb2, HS2.out.symm⟩, by simp [intOf]; omega⟩
      | false =>
        have HS2 := Lib.hid (HS.out false rfl)
        have hb2 : 2 * x ≤ 2199023255552 := by
          have h1 := numF_lt b 0 (k + 1)
          rw [HS2.out] at h1
          have h2 : 2 ^ (k + 1) ≤ 2 ^ 40 := Nat.pow_le_pow_right (by omega) (by omega)
          have h3 : (2 : Nat) ^ 40 = 1099511627776 := by decide
          omega
        go_wp2
        exact ⟨⟨k + 1, 2 * x, by omega, by go_num, by go_num, hb2, HS2.out.symm⟩, by simp [intOf]; omega⟩
    · obtain rfl : k = n := by omega
      go_wp2
      go_ret
      exact ⟨by rw [← HX.out]; rfl, rfl⟩
theorem RG.drop {α : Type} {f : α → Value} {d : α} {w : World} {ad : Addr} {l : List α} (h : RG f d w (some ad) l) (k : Nat) : RG f d w (some (ad.add k)) (l.drop k) := fun hn => by
  rw [List.length_drop] at hn
  obtain ⟨ad', e, h1, h2⟩ := h (by omega)
  injection e with e
  subst e
  refine ⟨_, rfl, by rw [block_of_add]; exact h1, fun j hj => ?_⟩
  rw [List.length_drop] at hj
  rw [add_of_add, h2 (k + j) (by omega)]
  simp [List.getD]
theorem RG.take {α : Type} {f : α → Value} {d : α} {w : World} {A : Option Addr} {l : List α} (h : RG f d w A l) (k : Nat) : RG f d w A (l.take k) := fun hn => by
  rw [List.length_take] at hn
  obtain ⟨ad, e, h1, h2⟩ := h (by omega)
  refine ⟨ad, e, h1, fun j hj => ?_⟩
  rw [List.length_take] at hj
  rw [h2 j (by omega)]
  simp only [List.getD]
  rw [List.getElem?_take_of_lt (by omega)]
theorem numF_drop (b : List Bool) (k n : Nat) : ∀ j, numF (b.drop k) n j = numF b (k + n) j := by
  intro j
  induction j with
  | zero => rfl
  | succ j ih =>
    show 2 * numF (b.drop k) n j + (if (b.drop k).getD (n + j) false then 1 else 0) = 2 * numF b (k + n) j + (if b.getD (k + n + j) false then 1 else 0)
    rw [ih]
    congr 2
    simp [List.getD, Nat.add_assoc]
theorem numF_take (b : List Bool) (k m : Nat) : ∀ j, k + j ≤ m → numF (b.take m) k j = numF b k j := by
  intro j
  induction j with
  | zero => intro _; rfl
  | succ j ih =>
    intro h
    show 2 * numF (b.take m) k j + (if (b.take m).getD (k + j) false then 1 else 0) = 2 * numF b k j + (if b.getD (k + j) false then 1 else 0)
    rw [ih (by omega)]
    congr 2
    simp only [List.getD]
    rw [List.getElem?_take_of_lt (by omega)]
end Go.Proofs.YtmnlkganmgcpbaaGreatDoor
namespace Go.Proofs.YtmnlkganmgcpbaaGreatDoor
open Go.RowKit
set_option linter.unusedVariables false
def unB (s w : Nat) : List Bool := if w / 2 = 0 ∨ w / 2 = (2 ^ s - 1) / 2 then lowB (w / 2) (s - 1) else lowB w s
def unF (s : Nat) (ws : List Int) : Nat → List Bool
  | 0 => []
  | k + 1 => unF s ws k ++ unB s (ws.getD k 0).toNat
def inW (s : Nat) (ws : List Int) : Bool := ws.all fun w => decide (0 ≤ w) && decide (w ≤ ((2 ^ s - 1 : Nat) : Int))
def okW (s : Nat) (ws : List Int) : Bool := ws.all fun w => !(w == 0) && !(w == ((2 ^ s - 1 : Nat) : Int))
def unstuffRes (ws : List Int) (size : Int) : List Bool × Int :=
  if size < 2 ∨ 12 < size then ([], 3)
  else if inW size.toNat ws = false then ([], 3)
  else if 1048576 / size < ws.length then ([], 4)
  else if okW size.toNat ws = false then ([], 22)
  else (unF size.toNat ws ws.length, 0)
end Go.Proofs.YtmnlkganmgcpbaaGreatDoor
namespace Go.Proofs.YtmnlkganmgcpbaaGreatDoor
open Go.RowKit
set_option linter.unusedVariables false
section
variable {P : Program}
def aggD (d : TypeDesc) : Bool := match d with | .struct _ | .array _ _ => true | _ => false
theorem run_isAgg' (w : World) (t : TypeId) (d : TypeDesc) (hu : P.underlying t = some d) (hd : aggD d = true) : (isAgg t).run P w = .ok true w := by
  unfold isAgg
  rw [Sem.run_bind, run_underlying hu]
  cases d <;> simp_all [aggD, Result.andThen]
theorem run_loadVar_cells (w : World) (t : TypeId) (d : TypeDesc) (a : Addr) (cs : List Value) (hu : P.underlying t = some d) (hd : aggD d = true) (hi : (P.info? t).map (·.size) = some cs.length)
    (h : ∀ j v, cs[j]? = some v → w.cell? (a.add j) = some v) : (loadVar t a).run P w = .ok (.agg cs.toArray) w := by
  have hl := run_loadCells_list (P := P) w a cs h
  cases hq : P.info? t with
  | none => simp [hq] at hi
  | some i =>
    have hs : i.size = cs.length := by simp [hq] at hi; exact hi
    unfold loadVar
    rw [Sem.run_bind, run_isAgg' w t d hu hd]
    simp [Result.andThen, sizeOf, typeInfo, hq, hs, hl]
theorem run_storeVar_part (w : World) (t ty : TypeId) (g o : Nat) (cur : Array Value) (cs : List Value) (hg : w.heap[g]? = some (.cells cur t (0, 0))) (hi : (P.info? ty).map (·.size) = some cs.length)
    (hfit : o + cs.length ≤ cur.size) (h1 : ∀ v ∈ cs, v.oneCell' = true) :
    (storeVar ty ⟨g, o, none⟩ (.agg cs.toArray)).run P w = .ok () (w.setRow g (splice cur.toList o cs).toArray) := by
  have hst := run_storeCells_at (P := P) g o t cs 0 cur w hg (by simpa using hfit) h1
  cases hq : P.info? ty with
  | none => simp [hq] at hi
  | some i =>
    have hs : i.size = cs.length := by simp [hq] at hi; exact hi
    unfold splice
    simp only [Nat.add_zero, List.append_assoc] at hst
    simp [storeVar, sizeOf, typeInfo, hq, Value.cells, hs, hst]
theorem wpList_loadAgg {w : World} {ops : Array Oper} {rest : List Oper} {o : Oper} {a : Act} {Q : Exit → Act → World → Prop} (hgd : o.guard = none) (t : TypeId) (p : Operand) (ho : o.op = .load t p)
    (d : TypeDesc) (hu : P.underlying t = some d) (hd : aggD d = true) (ad : Addr) (cs : List Value) (hi : (P.info? t).map (·.size) = some cs.length) (hp : a.eval p = .pointer (some ad))
    (h : ∀ j v, cs[j]? = some v → w.cell? (ad.add j) = some v) (hk : wpList P ops Q rest (a.put o.dst (.agg cs.toArray)) w) : wpList P ops Q (o :: rest) a w := by
  refine wpList_plain hgd fun K hK => ?_
  have hrun := run_loadVar_cells (P := P) w t d ad cs hu hd hi h
  unfold Oper.wp execOp
  simp only [ho, hp, Instr.loadAt, Instr.sureAddr, Sem.run_bind, Sem.run_pure, Result.andThen_ok, hrun]
  exact hK _ _ hk
theorem wpList_storeAgg {w : World} {ops : Array Oper} {rest : List Oper} {o : Oper} {a : Act} {Q : Exit → Act → World → Prop} (hgd : o.guard = none) (ty : TypeId) (p x : Operand) (ho : o.op = .store ty p x)
    (t : TypeId) (g f : Nat) (cur : Array Value) (cs : List Value) (hp : a.eval p = .pointer (some ⟨g, f, none⟩)) (hx : a.eval x = .agg cs.toArray) (hg : w.heap[g]? = some (.cells cur t (0, 0))) (hi : (P.info? ty).map (·.size) = some cs.length)
    (hfit : f + cs.length ≤ cur.size) (h1 : ∀ v ∈ cs, v.oneCell' = true)
    (hk : wpList P ops Q rest (a.put o.dst undef) (w.setRow g (splice cur.toList f cs).toArray)) : wpList P ops Q (o :: rest) a w := by
  refine wpList_plain hgd fun K hK => ?_
  have hrun := run_storeVar_part (P := P) w t ty g f cur cs hg hi hfit h1
  unfold Oper.wp execOp
  simp only [ho, hp, hx, Instr.storeAt, Instr.sureAddr, Sem.run_bind, Sem.run_pure, Result.andThen_ok, hrun]
  exact hK _ _ hk
theorem run_part_agg (w : World) (t : TypeId) (d : TypeDesc) (cs : Array Value) (o n : Nat) (hu : P.underlying t = some d) (hd : aggD d = true) (hi : (P.info? t).map (·.size) = some n) :
    (part t cs o).run P w = .ok (.agg (cs.extract o (o + n))) w := by
  cases hq : P.info? t with
  | none => simp [hq] at hi
  | some i =>
    have hs : i.size = n := by simp [hq] at hi; exact hi
    unfold part
    rw [Sem.run_bind, run_isAgg' w t d hu hd]
    simp [Result.andThen, sizeOf, typeInfo, hq, hs]
theorem wpList_indexAgg {w : World} {ops : Array Oper} {rest : List Oper} {o : Oper} {a : Act} {Q : Exit → Act → World → Prop} (hgd : o.guard = none) (t : TypeId) (x i : Operand) (ho : o.op = .index t x i)
    (len : Nat) (e : TypeId) (hu : P.underlying t = some (.array len e)) (d : TypeDesc) (hue : P.underlying e = some d) (hd : aggD d = true) (n : Nat) (hi : (P.info? e).map (·.size) = some n)
    (cs : Array Value) (k : IntKind) (I : Int) (j : Nat) (hx : a.eval x = .agg cs) (hI : a.eval i = .int k I) (hj : I = (j : Int)) (hlt : j < len) (vs : Array Value) (hvs : cs.extract (j * n) (j * n + n) = vs)
    (hk : wpList P ops Q rest (a.put o.dst (.agg vs)) w) : wpList P ops Q (o :: rest) a w := by
  refine wpList_plain hgd fun K hK => ?_
  subst hj hvs
  have hrun := run_part_agg (P := P) w e d cs (j * n) n hue hd hi
  have hsz : (sizeOf e).run P w = .ok n w := by
    cases hq : P.info? e with
    | none => simp [hq] at hi
    | some q => simp [hq] at hi; simp [sizeOf, typeInfo, hq, hi]
  have hc : (0 : Int) ≤ (j : Int) ∧ (j : Int) < (len : Int) := by omega
  unfold Oper.wp execOp
  simp only [ho, hx, hI, Instr.index, asIntOf, Sem.run_bind, Sem.run_pure, Result.andThen_ok, run_underlying hu, if_pos hc, hsz, Int.toNat_natCast, hrun]
  exact hK _ _ hk
theorem wpList_allocAgg {w : World} {ops : Array Oper} {rest : List Oper} {o : Oper} {a : Act} {Q : Exit → Act → World → Prop} (hgd : o.guard = none) (t : TypeId) (ho : o.op = .alloc t)
    (cs : Array Value) (hz : (P.info? t).map (·.zero) = some (some (.agg cs)))
    (hk : wpList P ops Q rest (a.put o.dst (.pointer (some ⟨w.heap.size, 0, none⟩))) (w.alloc (.cells cs t))) : wpList P ops Q (o :: rest) a w := by
  refine wpList_plain hgd fun K hK => ?_
  cases hq : P.info? t with
  | none => simp [hq] at hz
  | some i =>
    have hz' : i.zero = some (.agg cs) := by simpa [hq] using hz
    unfold Oper.wp execOp
    simp only [ho]
    have hrun : (Instr.alloc t true (.tuple #[])).run P w = .ok (.pointer (some ⟨w.heap.size, 0, none⟩)) (w.alloc (.cells cs t)) := by
      simp [Instr.alloc, zeroValue, typeInfo, hq, hz', newVar, newRow, Value.cells]
    simp only [Sem.run_bind, Sem.run_pure, Result.andThen_ok, hrun]
    exact hK _ _ hk
theorem wpList_indexOne {w : World} {ops : Array Oper} {rest : List Oper} {o : Oper} {a : Act} {Q : Exit → Act → World → Prop} (hgd : o.guard = none) (t : TypeId) (x i : Operand) (ho : o.op = .index t x i)
    (len : Nat) (e : TypeId) (hu : P.underlying t = some (.array len e)) (d : TypeDesc) (hue : P.underlying e = some d) (hd : aggD d = false) (hi : (P.info? e).map (·.size) = some 1)
    (cs : Array Value) (k : IntKind) (I : Int) (j : Nat) (hx : a.eval x = .agg cs) (hI : a.eval i = .int k I) (hj : I = (j : Int)) (hlt : j < len) (v : Value) (hv : cs[j]? = some v)
    (hk : wpList P ops Q rest (a.put o.dst v) w) : wpList P ops Q (o :: rest) a w := by
  refine wpList_plain hgd fun K hK => ?_
  subst hj
  have hag : (isAgg e).run P w = .ok false w := by
    unfold isAgg
    rw [Sem.run_bind, run_underlying hue]
    cases d <;> simp_all [aggD, Result.andThen]
  have hsz : (sizeOf e).run P w = .ok 1 w := by
    cases hq : P.info? e with
    | none => simp [hq] at hi
    | some q => simp [hq] at hi; simp [sizeOf, typeInfo, hq, hi]
  have hrun : (part e cs (j * 1)).run P w = .ok v w := by
    unfold part
    rw [Sem.run_bind, hag]
    simp [Result.andThen, hv]
  have hc : (0 : Int) ≤ (j : Int) ∧ (j : Int) < (len : Int) := by omega
  unfold Oper.wp execOp
  simp only [ho, hx, hI, Instr.index, asIntOf, Sem.run_bind, Sem.run_pure, Result.andThen_ok, run_underlying hu, if_pos hc, hsz, Int.toNat_natCast, hrun]
  exact hK _ _ hk
end
def RowIs (w : World) (g : Nat) (cur : Array Value) (t : TypeId) : Prop := w.heap[g]? = some (.cells cur t (0, 0))
theorem RowIs.below {W W' : World} {g : Nat} {cur : Array Value} {t : TypeId} (h : RowIs W g cur t) (hb : Below W.heap.size W W') : RowIs W' g cur t := (hb.block _ (lt_of_heap h)).trans h
theorem RowIs.cell {w : World} {g : Nat} {cur : Array Value} {t : TypeId} (h : RowIs w g cur t) (j : Nat) (v : Value) (hv : cur[j]? = some v) : w.cell? ⟨g, j, none⟩ = some v := by
  rw [cell_of_row _ _ j cur t (0, 0) h]; exact hv
theorem RowIs.set {w : World} {g : Nat} {cur : Array Value} {t : TypeId} (h : RowIs w g cur t) (c' : Array Value) : RowIs (w.setRow g c') g c' t := setRow_heap w g cur c' t (0, 0) h
theorem RowIs.other {w : World} {g g' : Nat} {cur : Array Value} {t : TypeId} (h : RowIs w g cur t) (c' : Array Value) (hne : g ≠ g') : RowIs (w.setRow g' c') g cur t := (setRow_other w g' g c' hne).trans h
end Go.Proofs.YtmnlkganmgcpbaaGreatDoor
