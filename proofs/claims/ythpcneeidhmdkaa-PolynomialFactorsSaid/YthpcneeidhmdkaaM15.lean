import Derived.Test.YthpcneeidhmdkaaM14
namespace Go.Proofs.Ythpcneeidhmdkaa
set_option linter.unusedVariables false
set_option linter.unusedSectionVars false
open Fl
/-! the derivative: the lists; results that are ok -/
theorem mulRes_ok {C S P : Nat} (hv : VF C S P) {a b : List Nat} (ha : LtAll S a) (ta : Trimmed a) (na : a.length ≤ 2000) (hb : LtAll S b) (tb : Trimmed b) (nb : b.length ≤ 2000) : mulRes C S P (zl a) (zl b) = (zl (mulL S P a b), 0) := by
  unfold mulRes
  rw [show pvB C S P (zl a) = true from by unfold pvB; rw [vld_of hv, polB_zl ha (by omega) ta]; rfl, show pvB C S P (zl b) = true from by unfold pvB; rw [vld_of hv, polB_zl hb (by omega) tb]; rfl, nl_zl, nl_zl, zl_length, zl_length, if_neg (show ¬ (1 ≤ a.length ∧ 1 ≤ b.length ∧ 4098 < a.length + b.length) from by omega)]; rfl
theorem divRes_ok {C S P : Nat} (hv : VF C S P) {a b : List Nat} (ha : LtAll S a) (ta : Trimmed a) (na : a.length ≤ 4097) (hb : LtAll S b) (tb : Trimmed b) (nb : b.length ≤ 4097) (hne : b ≠ []) : divRes C S P (zl a) (zl b) = (zl (divQ S P a b), zl (divRest S P a b), 0) := by
  unfold divRes
  rw [show pvB C S P (zl a) = true from by unfold pvB; rw [vld_of hv, polB_zl ha na ta]; rfl, show pvB C S P (zl b) = true from by unfold pvB; rw [vld_of hv, polB_zl hb nb tb]; rfl, nl_zl, nl_zl, if_neg (fun e => hne (zl_nil e))]; rfl
theorem mulL_len (S P : Nat) (a b : List Nat) : (mulL S P a b).length ≤ a.length + b.length := by
  unfold mulL
  by_cases h : a = [] ∨ b = []
  · rw [if_pos h]; simp
  · rw [if_neg h]; unfold accL; simp
theorem derL_len (s p c : Nat) (a : List Nat) : (derL s p c a).length ≤ a.length := by
  unfold derL
  rw [trimL_length]
  refine Nat.le_trans (tl_le _ _) ?_
  rw [rgL_length]; omega
theorem derL_trimmed (s p c : Nat) (a : List Nat) : Trimmed (derL s p c a) := trimL_trimmed _
theorem derL_one (s p c : Nat) : derL s p c [1] = [] := rfl
section
variable {c s p : Nat} (h : VF c s p)
include h
theorem derL_lt (a : List Nat) : LtAll s (derL s p c a) := ltAll_trim (ltAll_map h fun i _ => fmul_lt h _ _)
theorem char_le : 2 ≤ c ∧ c ≤ s := by
  rcases h with ⟨_, rfl, h3, _, _⟩ | ⟨d, h1, _, _, rfl, rfl, _⟩
  · exact ⟨by omega, Nat.le_refl _⟩
  · exact ⟨by omega, Nat.pow_le_pow_right (n := 2) (by omega) h1⟩
theorem tms_one (n : Nat) : tms n (1 : KF h) = mkK h (n % c) := by
  obtain ⟨hc, hcs⟩ := char_le h
  induction n with
  | zero => rw [Nat.zero_mod, mkK_zero]; rfl
  | succ n ih =>
    show tms n (1 : KF h) + 1 = _
    rw [ih, ← mkK_one h, ← mkK_add h (Nat.lt_of_lt_of_le (Nat.mod_lt _ (by omega)) hcs) (by omega)]
    congr 1
    rcases h with ⟨rfl, rfl, h3, _, _⟩ | ⟨d, h1, _, hb, rfl, rfl, _⟩
    · unfold faddN; rw [if_pos rfl, Nat.mod_add_mod]
    · have hp : p ≠ 0 := by
        intro e; subst e
        have : bl 0 = 0 := by decide
        omega
      unfold faddN; rw [if_neg hp]
      rcases Nat.mod_two_eq_zero_or_one n with e | e
      · rw [e]; show 0 ^^^ 1 = _; rw [show (n + 1) % 2 = 1 from by omega]; rfl
      · rw [e]; show 1 ^^^ 1 = _; rw [show (n + 1) % 2 = 0 from by omega]; rfl
theorem co_derL {a : List Nat} (ha : LtAll s a) (i : Nat) : co h (derL s p c a) i = drv (co h a) i := by
  obtain ⟨hc, hcs⟩ := char_le h
  unfold derL
  rw [co_trim]
  unfold rgL
  rw [co_map]
  show _ = tms (i + 1) (co h a (i + 1))
  by_cases hi : i < a.length - 1
  · rw [if_pos hi, mkK_mul h (Nat.lt_of_lt_of_le (Nat.mod_lt _ (by omega)) hcs) (ha _), ← tms_one h, ← tms_mul, fone_mul]; rfl
  · rw [if_neg hi, co_sup h a (i + 1) (by omega), tms_zero]
theorem drv_congr {f g : Nat → KF h} (e : ∀ i, f i = g i) (i : Nat) : drv f i = drv g i := by show tms _ _ = tms _ _; rw [e]
theorem der_add {a b : List Nat} (ha : LtAll s a) (hb : LtAll s b) : derL s p c (addL s p a b) = addL s p (derL s p c a) (derL s p c b) :=
  co_ext h (derL_lt h _) (addL_lt h (derL_lt h _) (derL_lt h _)) (derL_trimmed _ _ _ _) (addL_trimmed h _ _) fun i => by
    rw [co_derL h (addL_lt h ha hb), co_addL h (derL_lt h _) (derL_lt h _), co_derL h ha, co_derL h hb, ← drv_add]
    exact drv_congr h (fun i => co_addL h ha hb i) i
theorem der_mul {a b : List Nat} (ha : LtAll s a) (hb : LtAll s b) : derL s p c (mulL s p a b) = addL s p (mulL s p (derL s p c a) b) (mulL s p a (derL s p c b)) :=
  co_ext h (derL_lt h _) (addL_lt h (mulL_lt h _ _) (mulL_lt h _ _)) (derL_trimmed _ _ _ _) (addL_trimmed h _ _) fun i => by
    rw [co_derL h (mulL_lt h _ _), co_addL h (mulL_lt h _ _) (mulL_lt h _ _), co_mulL h (derL_lt h _) hb, co_mulL h ha (derL_lt h _), drv_congr h (fun i => co_mulL h ha hb i) i, drv_conv]
    congr 1
    · exact conv_congr (fun k _ => (co_derL h ha k).symm) (fun _ _ => rfl)
    · exact conv_congr (fun _ _ => rfl) (fun k _ => (co_derL h hb k).symm)
end
end Go.Proofs.Ythpcneeidhmdkaa
