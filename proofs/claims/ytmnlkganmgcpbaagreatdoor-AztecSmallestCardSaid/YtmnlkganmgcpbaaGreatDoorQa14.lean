import Derived.Test.YtmnlkganmgcpbaaGreatDoorQa7
namespace Go.Proofs.YtmnlkganmgcpbaaGreatDoor
class Fl (K : Type) where
  add : K → K → K
  mul : K → K → K
  neg : K → K
  zero : K
  one : K
  add_assoc : ∀ a b c, add (add a b) c = add a (add b c)
  add_comm : ∀ a b, add a b = add b a
  zero_add : ∀ a, add zero a = a
  neg_add : ∀ a, add (neg a) a = zero
  mul_assoc : ∀ a b c, mul (mul a b) c = mul a (mul b c)
  mul_comm : ∀ a b, mul a b = mul b a
  one_mul : ∀ a, mul one a = a
  add_mul : ∀ a b c, mul (add a b) c = add (mul a c) (mul b c)
  one_ne : one ≠ zero
  nzd : ∀ a b, mul a b = zero → a = zero ∨ b = zero
  dec : DecidableEq K
  els : List K
  nodup : els.Nodup
  mem : ∀ a, a ∈ els
namespace Fl
variable {K : Type} [Fl K]
instance : Add K := ⟨Fl.add⟩
instance : Mul K := ⟨Fl.mul⟩
instance : Neg K := ⟨Fl.neg⟩
instance : Sub K := ⟨fun a b => a + -b⟩
instance : Zero K := ⟨Fl.zero⟩
instance : One K := ⟨Fl.one⟩
instance : DecidableEq K := Fl.dec
def npow (a : K) : Nat → K
  | 0 => 1
  | n + 1 => npow a n * a
instance : HPow K Nat K := ⟨npow⟩
instance : Std.Associative (α := K) (· + ·) := ⟨Fl.add_assoc⟩
instance : Std.Commutative (α := K) (· + ·) := ⟨Fl.add_comm⟩
instance : Std.Associative (α := K) (· * ·) := ⟨Fl.mul_assoc⟩
instance : Std.Commutative (α := K) (· * ·) := ⟨Fl.mul_comm⟩
end Fl
open Fl
variable {K : Type} [Fl K]
theorem fadd_assoc (a b c : K) : a + b + c = a + (b + c) := Fl.add_assoc a b c
theorem fadd_comm (a b : K) : a + b = b + a := Fl.add_comm a b
theorem fzero_add (a : K) : 0 + a = a := Fl.zero_add a
theorem fadd_zero (a : K) : a + 0 = a := by rw [fadd_comm]; exact fzero_add a
theorem fneg_add (a : K) : -a + a = 0 := Fl.neg_add a
theorem fadd_neg (a : K) : a + -a = 0 := by rw [fadd_comm]; exact fneg_add a
theorem fsub_def (a b : K) : a - b = a + -b := rfl
theorem fmul_assoc (a b c : K) : a * b * c = a * (b * c) := Fl.mul_assoc a b c
theorem fmul_comm (a b : K) : a * b = b * a := Fl.mul_comm a b
theorem fone_mul (a : K) : 1 * a = a := Fl.one_mul a
theorem fmul_one (a : K) : a * 1 = a := by rw [fmul_comm]; exact fone_mul a
theorem fadd_mul (a b c : K) : (a + b) * c = a * c + b * c := Fl.add_mul a b c
theorem fmul_add (a b c : K) : a * (b + c) = a * b + a * c := by rw [fmul_comm, fadd_mul, fmul_comm b, fmul_comm c]
theorem fone_ne : (1 : K) ≠ 0 := Fl.one_ne
theorem fnzd {a b : K} (h : a * b = 0) : a = 0 ∨ b = 0 := Fl.nzd a b h
theorem fadd_left_cancel {a b c : K} (h : a + b = a + c) : b = c := by
  have := congrArg (fun x => -a + x) h
  simpa [← fadd_assoc, fneg_add, fzero_add] using this
theorem fadd_right_cancel {a b c : K} (h : b + a = c + a) : b = c := by
  rw [fadd_comm b, fadd_comm c] at h; exact fadd_left_cancel h
theorem fzero_mul (a : K) : 0 * a = 0 := by
  have h : 0 * a + 0 * a = 0 * a + 0 := by rw [← fadd_mul, fadd_zero, fadd_zero]
  exact fadd_left_cancel h
theorem fmul_zero (a : K) : a * 0 = 0 := by rw [fmul_comm]; exact fzero_mul a
theorem fneg_mul (a b : K) : -a * b = -(a * b) := by
  apply fadd_right_cancel (a := a * b); rw [← fadd_mul, fneg_add, fneg_add, fzero_mul]
theorem fmul_neg (a b : K) : a * -b = -(a * b) := by rw [fmul_comm, fneg_mul, fmul_comm]
theorem fneg_zero : (-0 : K) = 0 := by
  apply fadd_right_cancel (a := (0 : K)); rw [fneg_add, fadd_zero]
theorem fsub_self (a : K) : a - a = 0 := fadd_neg a
theorem fsub_zero (a : K) : a - 0 = a := by rw [fsub_def, fneg_zero, fadd_zero]
theorem fsub_add_cancel (a b : K) : a - b + b = a := by rw [fsub_def, fadd_assoc, fneg_add, fadd_zero]
theorem fsub_eq_zero {a b : K} : a - b = 0 ↔ a = b := by
  constructor
  · intro h; have := fsub_add_cancel a b; rw [h, fzero_add] at this; exact this.symm
  · intro h; subst h; exact fsub_self a
theorem fsub_mul (a b c : K) : (a - b) * c = a * c - b * c := by rw [fsub_def, fadd_mul, fneg_mul]; rfl
theorem fmul_sub (a b c : K) : a * (b - c) = a * b - a * c := by rw [fsub_def, fmul_add, fmul_neg]; rfl
theorem fmul_left_cancel {a b c : K} (ha : a ≠ 0) (h : a * b = a * c) : b = c := by
  have h2 : a * (b - c) = 0 := by rw [fmul_sub, h, fsub_self]
  rcases fnzd h2 with h3 | h3
  · exact absurd h3 ha
  · exact fsub_eq_zero.1 h3
theorem fmul_ne {a b : K} (ha : a ≠ 0) (hb : b ≠ 0) : a * b ≠ 0 := by
  intro h; rcases fnzd h with h | h
  · exact ha h
  · exact hb h
theorem fmul_right_cancel {a b c : K} (ha : a ≠ 0) (h : b * a = c * a) : b = c := by
  rw [fmul_comm b, fmul_comm c] at h; exact fmul_left_cancel ha h
theorem fpow_zero (a : K) : a ^ 0 = 1 := rfl
theorem fpow_succ (a : K) (n : Nat) : a ^ (n + 1) = a ^ n * a := rfl
theorem fpow_add (a : K) (m n : Nat) : a ^ (m + n) = a ^ m * a ^ n := by
  induction n with
  | zero => rw [fpow_zero, fmul_one]; rfl
  | succ n ih => rw [← Nat.add_assoc, fpow_succ, ih, fpow_succ, fmul_assoc]
theorem fone_pow (n : Nat) : (1 : K) ^ n = 1 := by
  induction n with
  | zero => rfl
  | succ n ih => rw [fpow_succ, ih, fone_mul]
theorem fpow_mul (a : K) (m n : Nat) : a ^ (m * n) = (a ^ m) ^ n := by
  induction n with
  | zero => rfl
  | succ n ih => rw [Nat.mul_succ, fpow_add, ih, fpow_succ]
theorem fmul_pow (a b : K) (n : Nat) : (a * b) ^ n = a ^ n * b ^ n := by
  induction n with
  | zero => rw [fpow_zero, fpow_zero, fpow_zero, fone_mul]
  | succ n ih => rw [fpow_succ, fpow_succ, fpow_succ, ih]; ac_rfl
theorem fzero_pow (n : Nat) (h : n ≠ 0) : (0 : K) ^ n = 0 := by
  obtain ⟨m, rfl⟩ : ∃ m, n = m + 1 := ⟨n - 1, by omega⟩
  rw [fpow_succ, fmul_zero]
theorem fpow_ne {a : K} (ha : a ≠ 0) (n : Nat) : a ^ n ≠ 0 := by
  induction n with
  | zero => exact fone_ne
  | succ n ih => rw [fpow_succ]; exact fmul_ne ih ha
def card (K : Type) [Fl K] : Nat := (els : List K).length
def units (K : Type) [Fl K] : List K := (els : List K).filter (fun a => a ≠ 0)
theorem mem_units {a : K} : a ∈ units K ↔ a ≠ 0 := by
  unfold units; simp [Fl.mem]
theorem nodup_units : (units K).Nodup := Fl.nodup.filter _
theorem els_perm : (els : List K).Perm (0 :: units K) := by
  refine (List.perm_ext_iff_of_nodup Fl.nodup ?_).2 ?_
  · rw [List.nodup_cons]; exact ⟨by rw [mem_units]; simp, nodup_units⟩
  · intro a; simp only [Fl.mem, List.mem_cons, mem_units, true_iff]
    by_cases h : a = 0
    · exact .inl h
    · exact .inr h
theorem units_length : (units K).length + 1 = card K := by
  have := (els_perm (K := K)).length_eq; simp only [List.length_cons] at this; exact this.symm
theorem card_ge : 2 ≤ card K := by
  rw [← units_length]
  have h : (1 : K) ∈ units K := mem_units.2 fone_ne
  have := List.length_pos_of_mem h; omega
def prd : List K → K
  | [] => 1
  | a :: l => a * prd l
theorem prd_perm {l m : List K} (h : l.Perm m) : prd l = prd m := by
  induction h with
  | nil => rfl
  | cons x _ ih => simp only [prd, ih]
  | swap x y l => simp only [prd]; ac_rfl
  | trans _ _ i1 i2 => rw [i1, i2]
theorem prd_map_mul (a : K) (l : List K) : prd (l.map (a * ·)) = a ^ l.length * prd l := by
  induction l with
  | nil => simp only [List.map_nil, prd, List.length_nil, fpow_zero, fone_mul]
  | cons x l ih => simp only [List.map_cons, prd, ih, List.length_cons, fpow_succ]; ac_rfl
theorem prd_ne {l : List K} (h : ∀ a ∈ l, a ≠ 0) : prd l ≠ 0 := by
  induction l with
  | nil => exact fone_ne
  | cons x l ih => exact fmul_ne (h x (by simp)) (ih fun a ha => h a (by simp [ha]))
theorem nodup_map {α β : Type} {f : α → β} {l : List α} (hf : ∀ a ∈ l, ∀ b ∈ l, f a = f b → a = b) (h : l.Nodup) : (l.map f).Nodup := by
  induction l with
  | nil => simp
  | cons x l ih =>
    rw [List.nodup_cons] at h
    rw [List.map_cons, List.nodup_cons]
    refine ⟨?_, ih (fun a ha b hb => hf a (by simp [ha]) b (by simp [hb])) h.2⟩
    intro hm
    obtain ⟨y, hy, e⟩ := List.mem_map.1 hm
    have := hf y (by simp [hy]) x (by simp) e
    subst this; exact h.1 hy
theorem length_le_of_subset {α : Type} {l m : List α} (hl : l.Nodup) (h : ∀ a ∈ l, a ∈ m) : l.length ≤ m.length := by
  induction l generalizing m with
  | nil => simp
  | cons x l ih =>
    rw [List.nodup_cons] at hl
    obtain ⟨s, t, rfl⟩ := List.append_of_mem (h x (by simp))
    have := ih (m := s ++ t) hl.2 (fun a ha => by
      have h1 := h a (by simp [ha])
      simp only [List.mem_append, List.mem_cons] at h1 ⊢
      rcases h1 with h1 | h1 | h1
      · exact .inl h1
      · subst h1; exact absurd ha hl.1
      · exact .inr h1)
    simp only [List.length_append, List.length_cons] at this ⊢; omega
theorem perm_of_subset {α : Type} {l m : List α} (hl : l.Nodup) (h : ∀ a ∈ l, a ∈ m) (hlen : m.length ≤ l.length) : l.Perm m := by
  induction l generalizing m with
  | nil => have : m = [] := List.length_eq_zero_iff.1 (by simpa using hlen)
           subst this; exact List.Perm.refl _
  | cons x l ih =>
    rw [List.nodup_cons] at hl
    obtain ⟨s, t, rfl⟩ := List.append_of_mem (h x (by simp))
    have := ih (m := s ++ t) hl.2 (fun a ha => by
      have h1 := h a (by simp [ha])
      simp only [List.mem_append, List.mem_cons] at h1 ⊢
      rcases h1 with h1 | h1 | h1
      · exact .inl h1
      · subst h1; exact absurd ha hl.1
      · exact .inr h1) (by simp only [List.length_append, List.length_cons] at hlen ⊢; omega)
    exact (this.cons x).trans List.perm_middle.symm
theorem fermat {a : K} (ha : a ≠ 0) : a ^ (card K - 1) = 1 := by
  have hp : ((units K).map (a * ·)).Perm (units K) := by
    refine perm_of_subset (nodup_map (fun x _ y _ e => fmul_left_cancel ha e) nodup_units) ?_ (by simp)
    intro b hb
    obtain ⟨x, hx, rfl⟩ := List.mem_map.1 hb
    exact mem_units.2 (fmul_ne ha (mem_units.1 hx))
  have h1 := prd_perm hp
  rw [prd_map_mul] at h1
  have h2 : prd (units K) ≠ 0 := prd_ne fun x hx => mem_units.1 hx
  have h3 : (units K).length = card K - 1 := by have := units_length (K := K); omega
  rw [← h3]
  exact fmul_right_cancel h2 (by rw [h1, fone_mul])
def finv (a : K) : K := a ^ (card K - 2)
theorem fmul_inv {a : K} (ha : a ≠ 0) : a * finv a = 1 := by
  have h := fermat ha
  have := card_ge (K := K)
  rw [show card K - 1 = (card K - 2) + 1 from by omega, fpow_succ] at h
  rw [fmul_comm]; exact h
theorem exists_least {P : Nat → Prop} (h : ∃ n, P n) : ∃ n, P n ∧ ∀ m, m < n → ¬ P m := by
  obtain ⟨n, hn⟩ := h
  induction n using Nat.strongRecOn with
  | _ n ih =>
    by_cases hx : ∃ m, m < n ∧ P m
    · obtain ⟨m, hm, hp⟩ := hx; exact ih m hm hp
    · exact ⟨n, hn, fun m hm hp => hx ⟨m, hm, hp⟩⟩
def IsOrd (a : K) (k : Nat) : Prop := 1 ≤ k ∧ a ^ k = 1 ∧ ∀ m, 1 ≤ m → m < k → a ^ m ≠ 1
theorem isOrd_exists {a : K} (ha : a ≠ 0) : ∃ k, IsOrd a k := by
  obtain ⟨k, ⟨h1, h2⟩, h3⟩ := exists_least (P := fun k => 1 ≤ k ∧ a ^ k = 1) ⟨card K - 1, by have := card_ge (K := K); omega, fermat ha⟩
  exact ⟨k, h1, h2, fun m hm hlt he => h3 m hlt ⟨hm, he⟩⟩
theorem IsOrd.ne {a : K} {k : Nat} (h : IsOrd a k) : a ≠ 0 := by
  intro e; subst e; have := h.2.1; rw [fzero_pow _ (by have := h.1; omega)] at this; exact fone_ne this.symm
theorem fpow_mod {a : K} {k : Nat} (h : a ^ k = 1) (m : Nat) : a ^ m = a ^ (m % k) := by
  conv => lhs; rw [← Nat.div_add_mod m k, fpow_add, fpow_mul, h, fone_pow, fone_mul]
theorem IsOrd.dvd {a : K} {k m : Nat} (h : IsOrd a k) : a ^ m = 1 ↔ k ∣ m := by
  constructor
  · intro e
    rw [fpow_mod h.2.1] at e
    by_cases h0 : m % k = 0
    · exact Nat.dvd_of_mod_eq_zero h0
    · exact absurd e (h.2.2 _ (by omega) (Nat.mod_lt _ (by have := h.1; omega)))
  · rintro ⟨c, rfl⟩; rw [fpow_mul, h.2.1, fone_pow]
theorem IsOrd.dvd_card {a : K} {k : Nat} (h : IsOrd a k) : k ∣ card K - 1 := h.dvd.1 (fermat h.ne)
theorem IsOrd.le {a : K} {k : Nat} (h : IsOrd a k) : k ≤ card K - 1 :=
  Nat.le_of_dvd (by have := card_ge (K := K); omega) h.dvd_card
theorem IsOrd.inj {a : K} {k i j : Nat} (h : IsOrd a k) (hi : i < k) (hj : j < k) (e : a ^ i = a ^ j) : i = j := by
  have aux : ∀ i j, i ≤ j → i < k → j < k → a ^ i = a ^ j → i = j := by
    intro i j hij hi hj e
    have e2 : a ^ i * a ^ (j - i) = a ^ i * 1 := by rw [← fpow_add, fmul_one, show i + (j - i) = j from by omega]; exact e.symm
    have e3 := fmul_left_cancel (fpow_ne h.ne i) e2
    by_cases h0 : j - i = 0
    · omega
    · exact absurd e3 (h.2.2 _ (by omega) (by omega))
  rcases Nat.le_total i j with hl | hl
  · exact aux i j hl hi hj e
  · exact (aux j i hl hj hi e.symm).symm
theorem IsOrd.pow {a : K} {d e : Nat} (h : IsOrd a (d * e)) (hd : 1 ≤ d) : IsOrd (a ^ d) e := by
  refine ⟨?_, by rw [← fpow_mul]; exact h.2.1, ?_⟩
  · rcases Nat.eq_zero_or_pos e with h0 | h0
    · subst h0; have := h.1; omega
    · exact h0
  · intro m hm hlt he
    rw [← fpow_mul] at he
    have : d * m < d * e := Nat.mul_lt_mul_of_pos_left hlt hd
    exact h.2.2 _ (Nat.mul_pos hd hm) this he
theorem IsOrd.mul {a b : K} {m k : Nat} (ha : IsOrd a m) (hb : IsOrd b k) (hc : Nat.Coprime m k) : IsOrd (a * b) (m * k) := by
  have hmk : 1 ≤ m * k := Nat.mul_pos ha.1 hb.1
  have h1 : (a * b) ^ (m * k) = 1 := by
    rw [fmul_pow, fpow_mul, ha.2.1, fone_pow, Nat.mul_comm, fpow_mul, hb.2.1, fone_pow, fone_mul]
  refine ⟨hmk, h1, ?_⟩
  intro j hj hlt he
  have e1 : k ∣ j := by
    have : b ^ (m * j) = 1 := by
      have := congrArg (fun x => x ^ m) he
      simp only [fone_pow, ← fpow_mul] at this
      rw [fmul_pow, Nat.mul_comm j m, fpow_mul a, ha.2.1, fone_pow, fone_mul] at this
      exact this
    exact hc.symm.dvd_of_dvd_mul_left (hb.dvd.1 this)
  have e2 : m ∣ j := by
    have : a ^ (k * j) = 1 := by
      have := congrArg (fun x => x ^ k) he
      simp only [fone_pow, ← fpow_mul] at this
      rw [fmul_pow, Nat.mul_comm j k, fpow_mul b, hb.2.1, fone_pow, fmul_one] at this
      exact this
    exact hc.dvd_of_dvd_mul_left (ha.dvd.1 this)
  have := Nat.le_of_dvd hj (hc.mul_dvd_of_dvd_of_dvd e2 e1)
  omega
theorem strip (q : Nat) (hq : 2 ≤ q) (m : Nat) (hm : 1 ≤ m) : ∃ t r, m = q ^ t * r ∧ ¬ q ∣ r := by
  induction m using Nat.strongRecOn with
  | _ m ih =>
    by_cases h : q ∣ m
    · obtain ⟨c, rfl⟩ := h
      have hc : 1 ≤ c := by rcases Nat.eq_zero_or_pos c with h0 | h0
                            · subst h0; simp at hm
                            · exact h0
      obtain ⟨t, r, h1, h2⟩ := ih c (by have := Nat.mul_le_mul_right c hq; omega) hc
      exact ⟨t + 1, r, by rw [h1, Nat.pow_succ]; ac_rfl, h2⟩
    · exact ⟨0, m, by simp, h⟩
theorem least_factor (c : Nat) (hc : 2 ≤ c) : ∃ q, 2 ≤ q ∧ q ∣ c ∧ ∀ d, d ∣ q → d = 1 ∨ d = q := by
  obtain ⟨q, ⟨h1, h2⟩, h3⟩ := exists_least (P := fun q => 2 ≤ q ∧ q ∣ c) ⟨c, hc, Nat.dvd_refl c⟩
  refine ⟨q, h1, h2, fun d hd => ?_⟩
  have hd0 : d ≠ 0 := by intro h; subst h; have := Nat.eq_zero_of_zero_dvd hd; omega
  have hle := Nat.le_of_dvd (by omega) hd
  by_cases hd1 : d = 1
  · exact .inl hd1
  by_cases hdq : d = q
  · exact .inr hdq
  exact absurd ⟨by omega, Nat.dvd_trans hd h2⟩ (h3 d (by omega))
theorem coprime_of_prime {q r : Nat} (hq : ∀ d, d ∣ q → d = 1 ∨ d = q) (h : ¬ q ∣ r) : Nat.Coprime q r := by
  rcases hq (Nat.gcd q r) (Nat.gcd_dvd_left q r) with h1 | h1
  · exact h1
  · exact absurd (h1 ▸ Nat.gcd_dvd_right q r) h
theorem greater_order {a b : K} {m k : Nat} (ha : IsOrd a m) (hb : IsOrd b k) (hn : ¬ k ∣ m) : ∃ c l, IsOrd (c : K) l ∧ m < l := by
  have hg : Nat.gcd k m ∣ k := Nat.gcd_dvd_left k m
  obtain ⟨c, hc⟩ := hg
  have hg0 : 1 ≤ Nat.gcd k m := Nat.gcd_pos_of_pos_left _ hb.1
  have hc2 : 2 ≤ c := by
    rcases Nat.lt_or_ge c 2 with h | h
    · have : c = 0 ∨ c = 1 := by omega
      rcases this with h0 | h0
      · subst h0; have := hb.1; rw [Nat.mul_zero] at hc; omega
      · subst h0; rw [Nat.mul_one] at hc; exact absurd (hc ▸ Nat.gcd_dvd_right k m) hn
    · exact h
  obtain ⟨q, hq2, hqc, hqp⟩ := least_factor c hc2
  obtain ⟨s, k', hk, hk'⟩ := strip q hq2 k hb.1
  obtain ⟨t, m', hm, hm'⟩ := strip q hq2 m ha.1
  have hst : t < s := by
    rcases Nat.lt_or_ge t s with h | h
    · exact h
    · exfalso
      have h1 : q ^ s ∣ m := by rw [hm]; exact Nat.dvd_trans (Nat.pow_dvd_pow q h) (Nat.dvd_mul_right _ _)
      have h2 : q ^ s ∣ k := by rw [hk]; exact Nat.dvd_mul_right _ _
      obtain ⟨e, he⟩ := Nat.dvd_gcd h2 h1
      have h3 : q ^ s * k' = q ^ s * (e * c) := by rw [← hk, ← Nat.mul_assoc, ← he, ← hc]
      have h4 : k' = e * c := Nat.eq_of_mul_eq_mul_left (Nat.pow_pos (by omega)) h3
      exact hk' (h4 ▸ Nat.dvd_trans hqc (Nat.dvd_mul_left c e))
  have hb' : IsOrd (b ^ k') (q ^ s) := IsOrd.pow (by rw [Nat.mul_comm, ← hk]; exact hb) (by
    rcases Nat.eq_zero_or_pos k' with h0 | h0
    · subst h0; exact absurd (Nat.dvd_zero q) hk'
    · exact h0)
  have ha' : IsOrd (a ^ (q ^ t)) m' := IsOrd.pow (by rw [← hm]; exact ha) (Nat.pow_pos (by omega))
  refine ⟨_, _, IsOrd.mul hb' ha' (Nat.Coprime.pow_left s (coprime_of_prime hqp hm')), ?_⟩
  have hm1 : 1 ≤ m' := ha'.1
  have : q ^ t < q ^ s := Nat.pow_lt_pow_right (by omega) hst
  rw [hm]
  exact Nat.mul_lt_mul_of_pos_right this hm1
def ev (x : K) : List K → K
  | [] => 0
  | c :: t => c + x * ev x t
def sd (r : K) : List K → List K
  | [] => []
  | [_] => []
  | _ :: d :: t => ev r (d :: t) :: sd r (d :: t)
theorem sd_length (r : K) (p : List K) : (sd r p).length = p.length - 1 := by
  induction p with
  | nil => rfl
  | cons c t ih => cases t with
    | nil => rfl
    | cons d t => simp only [sd, List.length_cons] at ih ⊢; omega
theorem ev_sd (r x : K) (p : List K) : ev x p = (x - r) * ev x (sd r p) + ev r p := by
  induction p with
  | nil => simp only [ev, sd, fmul_zero, fadd_zero]
  | cons c t ih => cases t with
    | nil => simp only [ev, sd, fmul_zero, fadd_zero, fzero_add]
    | cons d t =>
      have e1 : ev x (c :: d :: t) = c + x * ev x (d :: t) := rfl
      have e2 : ev r (c :: d :: t) = c + r * ev r (d :: t) := rfl
      have e3 : ev x (sd r (c :: d :: t)) = ev r (d :: t) + x * ev x (sd r (d :: t)) := rfl
      rw [e1, e2, e3, ih]
      generalize ev r (d :: t) = u
      generalize ev x (sd r (d :: t)) = v
      simp only [fmul_add, fsub_def, fadd_mul]
      rw [show x * u + -r * u + (x * (x * v) + -r * (x * v)) + (c + r * u) = (-r * u + r * u) + (c + (x * (x * v) + x * (-r * v) + x * u)) from by ac_rfl]
      rw [show -r * u + r * u = 0 from by rw [fneg_mul, fneg_add], fzero_add]
theorem sd_last (r : K) (p : List K) (h : 2 ≤ p.length) : (sd r p).getLast? = p.getLast? := by
  induction p with
  | nil => simp at h
  | cons c t ih => cases t with
    | nil => simp at h
    | cons d t =>
      cases t with
      | nil => simp [sd, ev, fmul_zero, fadd_zero]
      | cons e t =>
        have := ih (by simp)
        have h1 : sd r (c :: d :: e :: t) = ev r (d :: e :: t) :: sd r (d :: e :: t) := rfl
        rw [h1]
        have h2 : sd r (d :: e :: t) = ev r (e :: t) :: sd r (e :: t) := rfl
        rw [h2] at this ⊢
        simp only [List.getLast?_cons_cons] at this ⊢
        exact this
theorem roots_le (p : List K) (c : K) (hc : p.getLast? = some c) (hc0 : c ≠ 0) (l : List K) (hl : l.Nodup) (hr : ∀ x ∈ l, ev x p = 0) : l.length < p.length := by
  induction l generalizing p with
  | nil => have : p ≠ [] := by intro h; subst h; simp at hc
           exact List.length_pos_iff.2 this
  | cons r l ih =>
    rw [List.nodup_cons] at hl
    by_cases h2 : 2 ≤ p.length
    · have := ih (sd r p) (by rw [sd_last r p h2]; exact hc) hl.2 (by
        intro x hx
        have e := ev_sd r x p
        rw [hr x (by simp [hx]), hr r (by simp), fadd_zero] at e
        rcases fnzd e.symm with h | h
        · rw [fsub_eq_zero] at h; subst h; exact absurd hx hl.1
        · exact h)
      rw [sd_length] at this
      simp only [List.length_cons]; omega
    · exfalso
      match p, hc, h2 with
      | [], hc, _ => simp at hc
      | [d], hc, _ =>
        have : d = c := by simpa using hc
        subst this
        have := hr r (by simp)
        simp only [ev, fmul_zero, fadd_zero] at this
        exact hc0 this
      | _ :: _ :: _, _, h2 => simp at h2
theorem ev_xn (x : K) (e : Nat) : ev x (List.replicate e (0 : K) ++ [1]) = x ^ e := by
  induction e with
  | zero => simp only [List.replicate_zero, List.nil_append, ev, fmul_zero, fadd_zero, fpow_zero]
  | succ e ih => simp only [List.replicate_succ, List.cons_append, ev, ih, fzero_add, fpow_succ]; exact fmul_comm _ _
theorem units_le_of_pow {e : Nat} (he : 1 ≤ e) (h : ∀ a : K, a ≠ 0 → a ^ e = 1) : card K - 1 ≤ e := by
  obtain ⟨e, rfl⟩ : ∃ d, e = d + 1 := ⟨e - 1, by omega⟩
  have := roots_le (K := K) (-1 :: (List.replicate e (0 : K) ++ [1])) 1 (by rw [List.getLast?_cons]; simp) fone_ne (units K) nodup_units (by
    intro x hx
    have h1 := h x (mem_units.1 hx)
    simp only [ev, ev_xn]
    rw [fmul_comm, ← fpow_succ, h1, fneg_add])
  simp only [List.length_cons, List.length_append, List.length_replicate, List.length_nil] at this
  have := units_length (K := K); omega
theorem cyclic : ∃ g : K, IsOrd g (card K - 1) := by
  -- an element of the greatest order
  have key : ∀ d : Nat, ∀ a : K, ∀ m, IsOrd a m → card K - 1 - m ≤ d → ∃ g : K, IsOrd g (card K - 1) := by
    intro d
    induction d with
    | zero =>
      intro a m h hd
      have := h.le
      obtain rfl : m = card K - 1 := by omega
      exact ⟨a, h⟩
    | succ d ih =>
      intro a m h hd
      by_cases hall : ∀ b : K, b ≠ 0 → b ^ m = 1
      · have := units_le_of_pow h.1 hall
        have := h.le
        obtain rfl : m = card K - 1 := by omega
        exact ⟨a, h⟩
      · have : ∃ b : K, b ≠ 0 ∧ b ^ m ≠ 1 := by
          apply Classical.byContradiction
          intro hno
          exact hall fun b hb => Classical.byContradiction fun hx => hno ⟨b, hb, hx⟩
        obtain ⟨b, hb, hbm⟩ := this
        obtain ⟨k, hk⟩ := isOrd_exists hb
        obtain ⟨c, l, hcl, hlt⟩ := greater_order h hk (fun hd => hbm (hk.dvd.2 hd))
        exact ih c l hcl (by have := hcl.le; omega)
  exact key (card K) 1 1 ⟨Nat.le_refl 1, fone_pow 1, fun m hm hlt => by omega⟩ (by omega)
end Go.Proofs.YtmnlkganmgcpbaaGreatDoor
namespace Go.Proofs.YtmnlkganmgcpbaaGreatDoor
def irrB (p : Nat) : Bool := (List.range (2 ^ ((bl p - 1) / 2 + 1))).all fun q => decide (q < 2) || cmod p q != 0
theorem irrB_iff (p : Nat) : irrB p = true ↔ ∀ q, 2 ≤ q → 2 * (bl q - 1) ≤ bl p - 1 → cmod p q ≠ 0 := by
  unfold irrB
  rw [List.all_eq_true]
  constructor
  · intro h q h2 hd
    have hb := bl_pos q (by omega)
    have := h q (List.mem_range.2 ((bl_le_iff _ _).1 (by omega)))
    simp at this; omega
  · intro h q hq
    have h1 := (bl_le_iff q _).2 (List.mem_range.1 hq)
    by_cases h2 : q < 2
    · simp [h2]
    · have := h q (by omega) (by have := bl_pos q (by omega); omega)
      simp [this]
def primeB (n : Nat) : Bool := decide (2 ≤ n) && (List.range (n + 1)).all fun d => decide (d < 2) || decide (n < d * d) || n % d != 0
theorem primeB_iff (n : Nat) : primeB n = true ↔ 2 ≤ n ∧ ∀ d, 2 ≤ d → d * d ≤ n → n % d ≠ 0 := by
  unfold primeB
  rw [Bool.and_eq_true, List.all_eq_true, decide_eq_true_iff]
  constructor
  · rintro ⟨h0, h⟩
    refine ⟨h0, fun d h2 hd => ?_⟩
    have hle : d ≤ n := Nat.le_trans (Nat.le_mul_of_pos_left d (by omega)) hd
    have := h d (List.mem_range.2 (by omega))
    simp at this
    omega
  · rintro ⟨h0, h⟩
    refine ⟨h0, fun d _ => ?_⟩
    by_cases h2 : d < 2
    · simp [h2]
    · by_cases h3 : n < d * d
      · simp [h3]
      · have := h d (by omega) (by omega); simp [this]
theorem prime_dvd {n : Nat} (h : primeB n = true) : ∀ d, d ∣ n → d = 1 ∨ d = n := by
  obtain ⟨h2, hd⟩ := (primeB_iff n).1 h
  intro d hdn
  obtain ⟨e, he⟩ := hdn
  have hd0 : d ≠ 0 := by intro h; subst h; omega
  have he0 : e ≠ 0 := by intro h; subst h; omega
  by_cases d1 : d = 1
  · exact .inl d1
  by_cases e1 : e = 1
  · subst e1; right; omega
  exfalso
  by_cases hde : d ≤ e
  · have : d * d ≤ n := by rw [he]; exact Nat.mul_le_mul_left d hde
    exact hd d (by omega) this (by rw [he]; exact Nat.mul_mod_right d e)
  · have : e * e ≤ n := by rw [he]; exact Nat.mul_le_mul_right e (by omega)
    exact hd e (by omega) this (Nat.mod_eq_zero_of_dvd ⟨d, by rw [he, Nat.mul_comm]⟩)
theorem irr_of {p d : Nat} (hp : bl p = d + 1) (h1 : 1 ≤ d) (h : irrB p = true) : Irr p := by
  refine ⟨by omega, fun q hq hd hdv => ?_⟩
  exact (irrB_iff p).1 h q hq hd ((cmod_eq_zero p q (by omega)).2 hdv)
def VF (c s p : Nat) : Prop :=
  (p = 0 ∧ c = s ∧ 2 < s ∧ s ≤ 4096 ∧ primeB s = true) ∨ (∃ d, 1 ≤ d ∧ d ≤ 12 ∧ bl p = d + 1 ∧ s = 2 ^ d ∧ c = 2 ∧ irrB p = true)
def faddN (s p a b : Nat) : Nat := if p = 0 then (a + b) % s else a ^^^ b
def fnegN (s p a : Nat) : Nat := if p = 0 then (s - a) % s else a
structure El (s : Nat) where
  val : Nat
  lt : val < s
theorem El.ext {s : Nat} {a b : El s} (h : a.val = b.val) : a = b := by
  cases a; cases b; simp only at h; subst h; rfl
theorem VF.two_le {c s p : Nat} (h : VF c s p) : 2 ≤ s := by
  rcases h with ⟨-, -, h, -⟩ | ⟨d, h1, -, -, h, -⟩
  · omega
  · rw [h]; exact Nat.pow_le_pow_right (n := 2) (by omega) h1
theorem VF.le {c s p : Nat} (h : VF c s p) : s ≤ 4096 := by
  rcases h with ⟨-, -, -, h, -⟩ | ⟨d, -, h1, -, h, -⟩
  · omega
  · rw [h]; exact Nat.pow_le_pow_right (n := 2) (by omega) h1
theorem fadd_lt {c s p : Nat} (h : VF c s p) (a b : Nat) (ha : a < s) (hb : b < s) : faddN s p a b < s := by
  have h2 := h.two_le
  unfold faddN
  rcases h with ⟨hp, -⟩ | ⟨d, -, -, hp, hs, -⟩
  · rw [if_pos hp]; exact Nat.mod_lt _ (by omega)
  · rw [if_neg (by intro h; subst h; rw [bl_zero] at hp; omega)]
    subst hs; exact Nat.xor_lt_two_pow ha hb
theorem fneg_lt {c s p : Nat} (h : VF c s p) (a : Nat) (ha : a < s) : fnegN s p a < s := by
  unfold fnegN
  split
  · exact Nat.mod_lt _ (by have := h.two_le; omega)
  · exact ha
theorem fmul_lt {c s p : Nat} (h : VF c s p) (a b : Nat) : fmulN s p a b < s := by
  have h2 := h.two_le
  unfold fmulN
  rcases h with ⟨hp, -⟩ | ⟨d, -, -, hp, hs, -⟩
  · rw [if_pos hp]; exact Nat.mod_lt _ (by omega)
  · have hp0 : p ≠ 0 := by intro h; subst h; rw [bl_zero] at hp; omega
    rw [if_neg hp0]
    subst hs; exact (bl_le_iff _ _).1 (by have := cmod_lt (cmul a b) p hp0; omega)
theorem mod_mul_mod_left (a b n : Nat) : (a % n) * b % n = a * b % n := by rw [Nat.mul_mod, Nat.mod_mod, ← Nat.mul_mod]
theorem mod_mul_mod_right (a b n : Nat) : a * (b % n) % n = a * b % n := by rw [Nat.mul_mod, Nat.mod_mod, ← Nat.mul_mod]
theorem neg_add_mod (a s : Nat) (ha : a < s) : ((s - a) % s + a) % s = 0 := by
  by_cases h : a = 0
  · subst h; simp
  · rw [Nat.mod_eq_of_lt (by omega : s - a < s), show s - a + a = s from by omega, Nat.mod_self]
instance elDec (s : Nat) : DecidableEq (El s) := fun a b =>
  if h : a.val = b.val then isTrue (El.ext h) else isFalse (fun e => h (by rw [e]))
theorem mul_zero_of {c s p : Nat} (h : VF c s p) (a b : Nat) (ha : a < s) (hb : b < s) (h0 : fmulN s p a b = 0) : a = 0 ∨ b = 0 := by
  unfold fmulN at h0
  rcases h with ⟨hp, -, -, -, hpr⟩ | ⟨d, h1, -, hp, hs, -, hir⟩
  · rw [if_pos hp] at h0
    have hd := Nat.dvd_of_mod_eq_zero h0
    by_cases hsa : s ∣ a
    · left
      by_cases ha0 : a = 0
      · exact ha0
      · exact absurd (Nat.le_of_dvd (by omega) hsa) (by omega)
    · right
      have hc := coprime_of_prime (prime_dvd hpr) hsa
      have hsb := hc.dvd_of_dvd_mul_left hd
      by_cases hb0 : b = 0
      · exact hb0
      · exact absurd (Nat.le_of_dvd (by omega) hsb) (by omega)
  · have hp0 : p ≠ 0 := by intro h; subst h; rw [bl_zero] at hp; omega
    rw [if_neg hp0] at h0
    subst hs
    have hba := (bl_le_iff _ _).2 ha
    have hbb := (bl_le_iff _ _).2 hb
    rcases euclid p a b (irr_of hp h1 hir) ((cmod_eq_zero _ _ hp0).1 h0) with h | h
    · exact .inl (cdvd_small h (by omega))
    · exact .inr (cdvd_small h (by omega))
@[reducible] def fldOf {c s p : Nat} (h : VF c s p) : Fl (El s) where
  add a b := ⟨faddN s p a.val b.val, fadd_lt h _ _ a.lt b.lt⟩
  mul a b := ⟨fmulN s p a.val b.val, fmul_lt h _ _⟩
  neg a := ⟨fnegN s p a.val, fneg_lt h _ a.lt⟩
  zero := ⟨0, by have := h.two_le; omega⟩
  one := ⟨1, by have := h.two_le; omega⟩
  add_assoc a b c := El.ext (by
    simp only [faddN]; split
    · rw [Nat.mod_add_mod, Nat.add_mod_mod, Nat.add_assoc]
    · exact Nat.xor_assoc _ _ _)
  add_comm a b := El.ext (by
    simp only [faddN]; split
    · rw [Nat.add_comm]
    · exact Nat.xor_comm _ _)
  zero_add a := El.ext (by
    simp only [faddN]; split
    · rw [Nat.zero_add]; exact Nat.mod_eq_of_lt a.lt
    · exact Nat.zero_xor _)
  neg_add a := El.ext (by
    simp only [faddN, fnegN]; split
    · exact neg_add_mod _ _ a.lt
    · exact Nat.xor_self _)
  mul_assoc a b c := El.ext (by
    simp only [fmulN]; split
    · rw [mod_mul_mod_left, mod_mul_mod_right, Nat.mul_assoc]
    · rename_i hp; rw [cmod_cmul_left _ _ _ hp, cmod_cmul_right _ _ _ hp, cmul_assoc])
  mul_comm a b := El.ext (by
    simp only [fmulN]; split
    · rw [Nat.mul_comm]
    · rw [cmul_comm])
  one_mul a := El.ext (by
    simp only [fmulN]
    rcases h with ⟨hp, -⟩ | ⟨d, -, -, hp, hs, -⟩
    · rw [if_pos hp, Nat.one_mul]; exact Nat.mod_eq_of_lt a.lt
    · have hp0 : p ≠ 0 := by intro h; subst h; rw [bl_zero] at hp; omega
      rw [if_neg hp0, one_cmul]
      have := a.lt; subst hs
      exact cmod_small _ _ (by have := (bl_le_iff _ _).2 this; omega))
  add_mul a b c := El.ext (by
    simp only [fmulN, faddN]; split
    · rw [mod_mul_mod_left, Nat.add_mul, Nat.mod_add_mod, Nat.add_mod_mod]
    · rename_i hp; rw [xor_cmul, cmod_xor _ _ _ hp])
  one_ne := by intro e; have := congrArg El.val e; simp at this
  nzd a b e := by
    rcases mul_zero_of h a.val b.val a.lt b.lt (congrArg El.val e) with h | h
    · exact .inl (El.ext h)
    · exact .inr (El.ext h)
  dec := elDec s
  els := (List.finRange s).map fun i => ⟨i.val, i.isLt⟩
  nodup := nodup_map (fun a _ b _ e => Fin.ext (congrArg El.val e)) (List.nodup_finRange s)
  mem a := List.mem_map.2 ⟨⟨a.val, a.lt⟩, List.mem_finRange _, rfl⟩
theorem card_fldOf {c s p : Nat} (h : VF c s p) : @card (El s) (fldOf h) = s := by
  show ((List.finRange s).map _).length = s
  simp
def fpowN (s p a : Nat) : Nat → Nat
  | 0 => 1
  | n + 1 => fmulN s p (fpowN s p a n) a
theorem fpowN_val {c s p : Nat} (h : VF c s p) (a : El s) (n : Nat) : fpowN s p a.val n = (@HPow.hPow (El s) Nat (El s) (@Fl.instHPowNat (El s) (fldOf h)) a n).val := by
  induction n with
  | zero => rfl
  | succ n ih => simp only [fpowN]; rw [ih]; rfl
end Go.Proofs.YtmnlkganmgcpbaaGreatDoor
