import Derived.Test.YthpcneeidhmdkaaM21
namespace Go.Proofs.Ythpcneeidhmdkaa
set_option linter.unusedVariables false
set_option linter.unusedSectionVars false
open Fl
/-! roots and factors -/
theorem eL_top (s p : Nat) (l : List Nat) (r c k : Nat) (hk : k < l.length) : (eL s p l r c (k + 1)).getD (k + 1) 0 = l.getD k 0 := by
  show (((eL s p l r c k).set k _).set (k + 1) (l.getD k 0)).getD (k + 1) 0 = _
  rw [List.getD, List.getElem?_set_self (by rw [List.length_set, eL_length]; omega)]
  rfl
theorem fromL_top (s p : Nat) (roots : List Nat) : ∀ k, (fromL s p roots k).getD k 0 = 1 := by
  intro k
  induction k with
  | zero => rfl
  | succ k ih =>
    show (extL s p (fromL s p roots k) (roots.getD k 0) 0).getD (k + 1) 0 = 1
    unfold extL
    have hl := fromL_length s p roots k
    rw [hl, eL_top _ _ _ _ _ _ (by omega), ih]
theorem fromL_ne (s p : Nat) (roots : List Nat) (k : Nat) : fromL s p roots k ≠ [] := fun e => by
  have := fromL_length s p roots k
  rw [e] at this; simp at this
section
variable {c s p : Nat} (h : VF c s p)
include h
theorem vl_cst (x : KF h) {k : Nat} (hk : k < s) : vl h x [k] = mkK h k := by
  show evs x (co h [k]) 1 = _
  rw [evs_top]
  show (0 : KF h) + mkK h k * x ^ 0 = _
  rw [fzero_add, fpow_zero, fmul_one]
theorem root_from {roots : List Nat} (hr : LtAll s roots) {x : Nat} (hx : x < s) : ∀ k, hornN s p x (fromL s p roots k) = 0 ↔ ∃ i, i < k ∧ roots.getD i 0 = x := by
  have e : ∀ k, hornN s p x (fromL s p roots k) = 0 ↔ vl h (mkK h x) (fromL s p roots k) = 0 := fun k => by
    rw [← horn_vl h hx (fromL_lt h hr k)]
    constructor
    · intro e; rw [e, mkK_zero]
    · intro e
      rw [← mkK_zero h] at e
      exact mkK_inj h (hornN_lt h x _ (ltAll_mem (fromL_lt h hr k))) (by have := h.two_le; omega) e
  intro k
  rw [e]
  induction k with
  | zero =>
    rw [vl_fromL_zero]
    constructor
    · intro e1; exact absurd e1 (fun e2 => by
        rw [← mkK_one h, ← mkK_zero h] at e2
        have := mkK_inj h (by have := h.two_le; omega) (by have := h.two_le; omega) e2
        omega)
    · rintro ⟨i, hi, _⟩; omega
  | succ k ih =>
    rw [vl_fromL_succ h hr]
    constructor
    · intro e1
      rcases fnzd e1 with e2 | e2
      · rw [fsub_eq_zero] at e2
        exact ⟨k, by omega, (mkK_inj h hx (hr k) e2).symm⟩
      · obtain ⟨i, hi, h2⟩ := ih.1 e2
        exact ⟨i, by omega, h2⟩
    · rintro ⟨i, hi, h2⟩
      by_cases hik : i = k
      · subst hik
        rw [h2, fsub_self, fzero_mul]
      · rw [ih.2 ⟨i, by omega, h2⟩, fmul_zero]
theorem rest_root {a : List Nat} (ha : LtAll s a) (ta : Trimmed a) {x : Nat} (hx : x < s) : divRest s p a (fromL s p [x] 1) = [] ↔ hornN s p x a = 0 := by
  have hr : LtAll s [x] := fun i => by
    cases i with
    | zero => exact hx
    | succ i => have := h.two_le; show ([x] : List Nat).getD (i + 1) 0 < s; simp [List.getD]; omega
  have hb := fromL_lt h hr 1
  have tb : Trimmed (fromL s p [x] 1) := fromL_trimmed [x] 1
  have hl : (fromL s p [x] 1).length = 2 := fromL_length s p [x] 1
  have hne := fromL_ne s p [x] 1
  have hrt : hornN s p x (fromL s p [x] 1) = 0 := (root_from h hr hx 1).2 ⟨0, by omega, rfl⟩
  generalize fromL s p [x] 1 = b at *
  have hlast := trimmed_last tb hne
  have hrl := divRest_length h ha hb (by omega) hlast
  have hrlt := divRest_lt h (b := b) ha
  have hrt2 := divRest_trimmed h a b
  have hql := divQ_lt h a b
  have hqt := divQ_trimmed h ha hb ta (by omega) hlast
  have e : a = addL s p (mulL s p (divQ s p a b) b) (divRest s p a b) := by
    refine co_ext h ha (addL_lt h (mulL_lt h _ _) hrlt) ta (addL_trimmed h _ _) fun i => ?_
    rw [co_addL h (mulL_lt h _ _) hrlt, co_mulL h hql hb, div_eq h ha hb (by omega)]
  have hv : vl h (mkK h x) a = vl h (mkK h x) (divRest s p a b) := by
    have e2 := congrArg (vl h (mkK h x)) e
    rw [vl_addL h (mulL_lt h _ _) hrlt, vl_mulL h hql hb, ← horn_vl h hx hb, hrt, mkK_zero, fmul_zero, fzero_add] at e2
    exact e2
  have hz : hornN s p x a = 0 ↔ vl h (mkK h x) a = 0 := by
    rw [← horn_vl h hx ha]
    constructor
    · intro e; rw [e, mkK_zero]
    · intro e
      rw [← mkK_zero h] at e
      exact mkK_inj h (hornN_lt h x _ (ltAll_mem ha)) (by have := h.two_le; omega) e
  rw [hz, hv]
  generalize divRest s p a b = r at *
  match r, hrl, hrlt, hrt2 with
  | [], _, _, _ => exact ⟨fun _ => rfl, fun _ => rfl⟩
  | [u], _, h1, h2 =>
    have hu : u < s := h1 0
    have hu0 : u ≠ 0 := by
      rcases h2 with h2 | h2
      · cases h2
      · exact h2
    rw [vl_cst h _ hu]
    constructor
    · intro e; cases e
    · intro e; exact absurd e (mkK_ne h hu hu0)
  | _ :: _ :: _, h0, _, _ => simp at h0; omega
theorem roots_few {a : List Nat} (ha : LtAll s a) (ta : Trimmed a) (hne : a ≠ []) : (rootsL s p a s).length < a.length := by
  rcases Nat.lt_or_ge (rootsL s p a s).length a.length with h1 | h1
  · exact h1
  · exfalso
    have hm : ∀ x ∈ rootsL s p a s, x < s ∧ hornN s p x a = 0 := fun x hx => by
      unfold rootsL at hx
      rw [List.mem_filter, List.mem_range, beq_iff_eq] at hx
      exact hx
    have hnd : (rootsL s p a s).Nodup := List.Pairwise.filter _ List.nodup_range
    have h2 := roots_bound (co_sup h a) ((rootsL s p a s).map (mkK h)) (nodup_map (fun u hu v hv e => mkK_inj h (hm u hu).1 (hm v hv).1 e) hnd) (by rw [List.length_map]; exact h1) (fun y hy => by
      obtain ⟨x, hx, rfl⟩ := List.mem_map.1 hy
      obtain ⟨h3, h4⟩ := hm x hx
      show vl h (mkK h x) a = 0
      rw [← horn_vl h h3 ha, h4, mkK_zero]) (a.length - 1)
    exact trimmed_top h ha ta (List.length_pos_iff.2 hne) h2
end
theorem mem_roots {s p : Nat} {a : List Nat} {x : Nat} (hx : x < s) : ((x : Int) ∈ zl (rootsL s p a s)) ↔ hornN s p x a = 0 := by
  unfold zl
  rw [List.mem_map]
  constructor
  · rintro ⟨y, hy, e⟩
    obtain rfl : y = x := by exact_mod_cast e
    unfold rootsL at hy
    rw [List.mem_filter, List.mem_range, beq_iff_eq] at hy
    exact hy.2
  · intro e
    refine ⟨x, ?_, rfl⟩
    unfold rootsL
    rw [List.mem_filter, List.mem_range, beq_iff_eq]
    exact ⟨hx, e⟩
theorem mem_zl_getD {l : List Nat} {x : Nat} : ((x : Int) ∈ zl l) ↔ ∃ i, i < l.length ∧ l.getD i 0 = x := by
  unfold zl
  rw [List.mem_map]
  constructor
  · rintro ⟨y, hy, e⟩
    obtain rfl : y = x := by exact_mod_cast e
    obtain ⟨i, hi, rfl⟩ := List.getElem_of_mem hy
    exact ⟨i, hi, by simp [List.getD, hi]⟩
  · rintro ⟨i, hi, e⟩
    refine ⟨x, ?_, rfl⟩
    rw [← e]
    simp only [List.getD, List.getElem?_eq_getElem hi, Option.getD_some]
    exact List.getElem_mem hi
open Go.RowKit
set_option maxHeartbeats 1000000 in
theorem lhas_any (A : Option Addr) (n ca : Nat) (xs : List Int) (x : Int) (w : World) (hq : (⟨A, n, ca, xs⟩ : Sl).R w) :
    Calls Try.prog 33 #[.slice A n ca, .int .i64 x] w fun e w' => e = .returned (.bool (decide (x ∈ xs))) ∧ Below w.heap.size w w' := by
  have HN : Hid (n = xs.length) := hq.hn
  have hnm : n ≤ 9223372036854775807 := hq.hm
  have HR := Lib.hid hq.rd
  clear hq
  go_enter Try.func33, Try.ntmps33
  go_wp2
  go_loop [9] (fun i => ∃ k : Nat, k ≤ n ∧ i = .int .i64 k ∧ Hid (∀ j, j < k → xs.getD j 0 ≠ x)) (fun i => n - (intOf i).toNat)
  case atStart => exact ⟨0, Nat.zero_le _, rfl, fun j hj => by omega⟩
  case round =>
    obtain ⟨k, hk, rfl, hno⟩ := hrel
    by_cases hlt : k < n
    · obtain ⟨ad, rfl, hadw, hca⟩ := HR.out (by rw [← HN.out]; omega)
      have hx1 := hca k (by rw [← HN.out]; omega)
      clear hca
      generalize hy : xs.getD k 0 = y at *
      have HY := Lib.hid hy
      clear hy
      by_cases he : x = y
      · have HM : Hid (decide (x ∈ xs) = true) := by
          show _ = _
          rw [decide_eq_true_eq, he, ← HY.out]
          have hl : k < xs.length := by rw [← HN.out]; exact hlt
          simp only [List.getD, List.getElem?_eq_getElem hl, Option.getD_some]
          exact List.getElem_mem hl
        subst he
        go_wp2
        go_ret
        exact ⟨by rw [HM.out]; rfl, Below.refl _ _⟩
      · have hz : (x == y) = false := by rw [beq_eq_false_iff_ne]; exact he
        have HNE : Hid (xs.getD k 0 ≠ x) := fun e => he (e.symm.trans HY.out)
        clear he
        go_wp2
        exact ⟨⟨k + 1, by omega, by go_num, fun j hj => by
          rcases Nat.lt_or_ge j k with h1 | h1
          · exact hno.out j h1
          · obtain rfl : j = k := by omega
            exact HNE.out⟩, by simp [intOf]; omega⟩
    · obtain rfl : k = n := by omega
      have HM : Hid (decide (x ∈ xs) = false) := by
        show _ = _
        rw [decide_eq_false_iff_not]
        intro hm
        obtain ⟨i, hi, e⟩ := List.getElem_of_mem hm
        have := hno.out i (by rw [HN.out]; exact hi)
        apply this
        simp only [List.getD, List.getElem?_eq_getElem hi, Option.getD_some]
        exact e
      go_wp2
      go_ret
      exact ⟨by rw [HM.out]; rfl, Below.refl _ _⟩
end Go.Proofs.Ythpcneeidhmdkaa
