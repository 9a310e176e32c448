import Derived.Test.YthpcneeidhmdkaaM16
namespace Go.Proofs.Ythpcneeidhmdkaa
set_option linter.unusedVariables false
set_option linter.unusedSectionVars false
open Fl
/-! the greatest common divisor: the lists -/
theorem mulL_nil_left (s p : Nat) (b : List Nat) : mulL s p [] b = [] := by unfold mulL; rw [if_pos (.inl rfl)]
theorem mulL_nil_right (s p : Nat) (a : List Nat) : mulL s p a [] = [] := by unfold mulL; rw [if_pos (.inr rfl)]
theorem mulL_length {s p : Nat} {a b : List Nat} (ha : a ≠ []) (hb : b ≠ []) : (mulL s p a b).length = a.length + b.length - 1 := by
  unfold mulL; rw [if_neg (by simp [ha, hb]), accL_length]
theorem mulL_ne {s p : Nat} {a b : List Nat} (ha : a ≠ []) (hb : b ≠ []) : mulL s p a b ≠ [] := fun e => by
  have h1 := mulL_length (s := s) (p := p) ha hb
  have h2 := List.length_pos_iff.2 ha
  have h3 := List.length_pos_iff.2 hb
  rw [e] at h1; simp at h1; omega
theorem monL_length (s p : Nat) (g : List Nat) : (monL s p g).length = g.length := by unfold monL; simp
/-- y divides x -/
def Dv (s p : Nat) (y x : List Nat) : Prop := ∃ q, LtAll s q ∧ Trimmed q ∧ x = mulL s p q y
section
variable {c s p : Nat} (h : VF c s p)
include h
/-- the rest is the one short list that is left -/
theorem div_is {x y q r : List Nat} (hx : LtAll s x) (hq : LtAll s q) (hy : LtAll s y) (ty : Trimmed y) (hne : y ≠ []) (hr : LtAll s r) (tr : Trimmed r) (hl : r.length ≤ y.length - 1)
    (e0 : ∀ n, co h x n = conv (co h q) (co h y) n + co h r n) : divRest s p x y = r := by
  have hb1 : 1 ≤ y.length := List.length_pos_iff.2 hne
  have hb0 := trimmed_last ty hne
  have e1 : ∀ n, conv (co h (divQ s p x y)) (co h y) n + co h (divRest s p x y) n = conv (co h q) (co h y) n + co h r n := fun n => by
    rw [← div_eq h hx hy hb1 n, e0]
  have hsb : Sup (y.length - 1 + 1) (co h y) := (co_sup h y).mono (by omega)
  obtain ⟨_, e2⟩ := div_unique hsb (trimmed_top h hy ty hb1) ((co_sup h (divQ s p x y)).mono (Nat.le_max_left _ q.length)) ((co_sup h q).mono (Nat.le_max_right _ _)) (divRest_sup h hx hy hb1 hb0) ((co_sup h r).mono hl) e1
  exact co_ext h (divRest_lt h hx) hr (divRest_trimmed h _ _) tr e2
theorem rest_mul {u v : List Nat} (hu : LtAll s u) (hv : LtAll s v) (tv : Trimmed v) (hne : v ≠ []) : divRest s p (mulL s p u v) v = [] :=
  div_is h (mulL_lt h _ _) hu hv tv hne (lt_nil h) (.inl rfl) (by simp) fun n => by
    rw [co_mulL h hu hv, co_nil, fadd_zero]
theorem rest_dv {x y : List Nat} (hy : LtAll s y) (ty : Trimmed y) (hne : y ≠ []) (hd : Dv s p y x) : divRest s p x y = [] := by
  obtain ⟨q, hq, tq, rfl⟩ := hd
  exact rest_mul h hq hy ty hne
theorem rest_scale {a b r : List Nat} (ha : LtAll s a) (hb : LtAll s b) (hr : LtAll s r) (tb : Trimmed b) (tr : Trimmed r) (hbn : b ≠ []) (hrn : r ≠ []) :
    divRest s p (mulL s p a r) (mulL s p b r) = mulL s p (divRest s p a b) r := by
  have hb1 : 1 ≤ b.length := List.length_pos_iff.2 hbn
  have hr1 : 1 ≤ r.length := List.length_pos_iff.2 hrn
  have hlt := divRest_length h ha hb hb1 (trimmed_last tb hbn)
  refine div_is h (q := divQ s p a b) (mulL_lt h _ _) (divQ_lt h _ _) (mulL_lt h _ _) (mulL_trimmed h hb hr tb tr) (mulL_ne hbn hrn) (mulL_lt h _ _) (mulL_trimmed h (divRest_lt h ha) hr (divRest_trimmed h _ _) tr) ?_ fun n => ?_
  · by_cases h0 : divRest s p a b = []
    · rw [h0, mulL_nil_left]; simp
    · rw [mulL_length h0 hrn, mulL_length hbn hrn]; omega
  · rw [co_mulL h ha hr, co_mulL h (divRest_lt h ha) hr, conv_congr (fun k _ => div_eq h ha hb hb1 k) (fun _ _ => rfl), conv_add_left, conv_assoc]
    congr 1
    exact conv_congr (fun _ _ => rfl) (fun k _ => (co_mulL h hb hr k).symm)
theorem gcdF_scale {r : List Nat} (hr : LtAll s r) (tr : Trimmed r) (hrn : r ≠ []) : ∀ (n : Nat) (a b : List Nat), LtAll s a → LtAll s b → Trimmed b → gcdF s p n (mulL s p a r) (mulL s p b r) = mulL s p (gcdF s p n a b) r := by
  intro n
  induction n with
  | zero => intro a b _ _ _; rfl
  | succ n ih =>
    intro a b ha hb tb
    by_cases h0 : b = []
    · subst h0; rw [mulL_nil_left, gcdF_nil, gcdF_nil]
    · show (if mulL s p b r = [] then _ else _) = mulL s p (if b = [] then a else _) r
      rw [if_neg h0, if_neg (mulL_ne h0 hrn), rest_scale h ha hb hr tb tr h0 hrn]
      exact ih b _ hb (divRest_lt h ha) (divRest_trimmed h _ _)
theorem gcdF_lt : ∀ (n : Nat) (a b : List Nat), LtAll s a → LtAll s b → Trimmed a → Trimmed b → LtAll s (gcdF s p n a b) ∧ Trimmed (gcdF s p n a b) := by
  intro n
  induction n with
  | zero => intro a b ha _ ta _; exact ⟨ha, ta⟩
  | succ n ih =>
    intro a b ha hb ta tb
    by_cases h0 : b = []
    · subst h0; rw [gcdF_nil]; exact ⟨ha, ta⟩
    · show LtAll s (if b = [] then a else _) ∧ Trimmed (if b = [] then a else _)
      rw [if_neg h0]
      exact ih b _ hb (divRest_lt h ha) tb (divRest_trimmed h _ _)
theorem dv_refl {a : List Nat} (ha : LtAll s a) (ta : Trimmed a) : Dv s p a a :=
  ⟨[1], lt_one h, trimmed_one, by rw [mulL_comm h (lt_one h) ha trimmed_one ta, mulL_one h ha ta]⟩
theorem dv_nil (y : List Nat) : Dv s p y [] := ⟨[], lt_nil h, .inl rfl, (mulL_nil_left s p y).symm⟩
theorem dv_mul {y x z : List Nat} (hy : LtAll s y) (ty : Trimmed y) (hz : LtAll s z) (tz : Trimmed z) (hd : Dv s p y x) : Dv s p y (mulL s p z x) := by
  obtain ⟨q, hq, tq, rfl⟩ := hd
  exact ⟨mulL s p z q, mulL_lt h _ _, mulL_trimmed h hz hq tz tq, (mulL_assoc h hz hq hy tz tq ty).symm⟩
theorem dv_add {y x z : List Nat} (hy : LtAll s y) (ty : Trimmed y) (hd : Dv s p y x) (hd' : Dv s p y z) : Dv s p y (addL s p x z) := by
  obtain ⟨q, hq, tq, rfl⟩ := hd
  obtain ⟨u, hu, tu, rfl⟩ := hd'
  refine ⟨addL s p q u, addL_lt h hq hu, addL_trimmed h _ _, ?_⟩
  rw [mulL_comm h (addL_lt h hq hu) hy (addL_trimmed h _ _) ty, mulL_addL h hy hq hu ty tq tu, mulL_comm h hy hq ty tq, mulL_comm h hy hu ty tu]
theorem gcdF_dv : ∀ (n : Nat) (a b : List Nat), b.length ≤ n → LtAll s a → LtAll s b → Trimmed a → Trimmed b → Dv s p (gcdF s p n a b) a ∧ Dv s p (gcdF s p n a b) b := by
  intro n
  induction n with
  | zero =>
    intro a b hl ha hb ta tb
    have : b = [] := List.eq_nil_of_length_eq_zero (by omega)
    subst this
    exact ⟨dv_refl h ha ta, dv_nil h _⟩
  | succ n ih =>
    intro a b hl ha hb ta tb
    by_cases h0 : b = []
    · subst h0; rw [gcdF_nil]; exact ⟨dv_refl h ha ta, dv_nil h _⟩
    · have hb1 : 1 ≤ b.length := List.length_pos_iff.2 h0
      have hb0 := trimmed_last tb h0
      have hlt := divRest_length h ha hb hb1 hb0
      have e : gcdF s p (n + 1) a b = gcdF s p n b (divRest s p a b) := by
        show (if b = [] then a else _) = _
        rw [if_neg h0]
      rw [e]
      obtain ⟨d1, d2⟩ := ih b (divRest s p a b) (by omega) hb (divRest_lt h ha) tb (divRest_trimmed h _ _)
      obtain ⟨g1, g2⟩ := gcdF_lt h n b (divRest s p a b) hb (divRest_lt h ha) tb (divRest_trimmed h _ _)
      refine ⟨?_, d1⟩
      have ea : a = addL s p (mulL s p (divQ s p a b) b) (divRest s p a b) :=
        co_ext h ha (addL_lt h (mulL_lt h _ _) (divRest_lt h ha)) ta (addL_trimmed h _ _) fun i => by
          rw [co_addL h (mulL_lt h _ _) (divRest_lt h ha), co_mulL h (divQ_lt h _ _) hb, div_eq h ha hb hb1 i]
      have key : Dv s p (gcdF s p n b (divRest s p a b)) (addL s p (mulL s p (divQ s p a b) b) (divRest s p a b)) :=
        dv_add h g1 g2 (dv_mul h g1 g2 (divQ_lt h _ _) (divQ_trimmed h ha hb ta hb1 hb0) d1) d2
      rw [← ea] at key
      exact key
/-! the monic multiple -/
theorem co_monL {g : List Nat} (hg : LtAll s g) (i : Nat) : co h (monL s p g) i = mkK h (finvN s p (g.getD (g.length - 1) 0)) * co h g i := by
  unfold monL
  rw [co_map]
  by_cases hi : i < g.length
  · rw [if_pos hi, mkK_mul h (hg i) (invN_lt h), fmul_comm]; rfl
  · rw [if_neg hi, co_sup h g i (by omega), fmul_zero]
theorem monL_lt (g : List Nat) : LtAll s (monL s p g) := ltAll_map h fun i _ => fmul_lt h _ _
theorem monL_last {g : List Nat} (hg : LtAll s g) (tg : Trimmed g) (hne : g ≠ []) : (monL s p g).getD (g.length - 1) 0 = 1 := by
  have hl := List.length_pos_iff.2 hne
  unfold monL
  rw [getD_map_range _ _ _ (by omega)]
  exact mulN_inv h (hg _) (trimmed_last tg hne)
theorem monL_trimmed {g : List Nat} (hg : LtAll s g) (tg : Trimmed g) : Trimmed (monL s p g) := by
  by_cases hne : g = []
  · subst hne; exact .inl rfl
  · right; rw [monL_length, monL_last h hg tg hne]; omega
theorem trimmed_cst {k : Nat} (hk : k ≠ 0) : Trimmed [k] := .inr hk
theorem lt_cst {k : Nat} (hk : k < s) : LtAll s [k] := fun i => by
  have := h.two_le
  match i with
  | 0 => exact hk
  | i + 1 => show ([k] : List Nat).getD (i + 1) 0 < s; simp [List.getD]; omega
theorem co_cst {k : Nat} (hk : k < s) {x : List Nat} (hx : LtAll s x) (i : Nat) : co h (mulL s p [k] x) i = mkK h k * co h x i := by
  rw [co_mulL h (lt_cst h hk) hx, conv_congr (a' := cst (mkK h k)) (b' := co h x) (fun j _ => ?_) (fun _ _ => rfl), conv_cst]
  show mkK h (([k] : List Nat).getD j 0) = if j = 0 then mkK h k else 0
  match j with
  | 0 => rfl
  | j + 1 => rw [if_neg (by omega)]; exact mkK_zero h
/-- what divides g divides its monic multiple; what g divides, that one divides -/
theorem dv_mon {y g : List Nat} (hy : LtAll s y) (ty : Trimmed y) (hg : LtAll s g) (tg : Trimmed g) (hne : g ≠ []) (hd : Dv s p y g) : Dv s p y (monL s p g) := by
  have hk0 : finvN s p (g.getD (g.length - 1) 0) ≠ 0 := fun e => by
    have := mulN_inv h (hg (g.length - 1)) (trimmed_last tg hne)
    rw [e, mulN_zero h (hg _)] at this
    omega
  have e : monL s p g = mulL s p [finvN s p (g.getD (g.length - 1) 0)] g :=
    co_ext h (monL_lt h g) (mulL_lt h _ _) (monL_trimmed h hg tg) (mulL_trimmed h (lt_cst h (invN_lt h)) hg (trimmed_cst h hk0) tg) fun i => by
      rw [co_monL h hg, co_cst h (invN_lt h) hg]
  rw [e]
  exact dv_mul h hy ty (lt_cst h (invN_lt h)) (trimmed_cst h hk0) hd
theorem mon_dv {g x : List Nat} (hg : LtAll s g) (tg : Trimmed g) (hne : g ≠ []) (hd : Dv s p g x) : Dv s p (monL s p g) x := by
  obtain ⟨q, hq, tq, rfl⟩ := hd
  have e : g = mulL s p [g.getD (g.length - 1) 0] (monL s p g) :=
    co_ext h hg (mulL_lt h _ _) tg (mulL_trimmed h (lt_cst h (hg _)) (monL_lt h g) (trimmed_cst h (trimmed_last tg hne)) (monL_trimmed h hg tg)) fun i => by
      rw [co_cst h (hg _) (monL_lt h g), co_monL h hg, ← fmul_assoc, mkK_inv h (hg _) (trimmed_last tg hne), fone_mul]
  have key := dv_mul h (monL_lt h g) (monL_trimmed h hg tg) hq tq (⟨_, lt_cst h (hg _), trimmed_cst h (trimmed_last tg hne), e⟩ : Dv s p (monL s p g) g)
  exact key
end
end Go.Proofs.Ythpcneeidhmdkaa
namespace Go.Proofs.Ythpcneeidhmdkaa
set_option linter.unusedVariables false
set_option linter.unusedSectionVars false
open Fl
/-! Euclid: what the law asks -/
section
variable {C S P : Nat} (hv : VF C S P) {a b r : List Nat} (ha : LtAll S a) (hb : LtAll S b) (ta : Trimmed a) (tb : Trimmed b)
include hv ha hb ta tb
theorem gcdG (hne : ¬ (a = [] ∧ b = [])) : gcdF S P b.length a b ≠ [] ∧ LtAll S (gcdF S P b.length a b) ∧ Trimmed (gcdF S P b.length a b) ∧ Dv S P (gcdF S P b.length a b) a ∧ Dv S P (gcdF S P b.length a b) b ∧ (gcdF S P b.length a b).length ≤ max a.length b.length := by
  obtain ⟨g1, g2⟩ := gcdF_lt hv b.length a b ha hb ta tb
  obtain ⟨d1, d2⟩ := gcdF_dv hv b.length a b (Nat.le_refl _) ha hb ta tb
  have hn : gcdF S P b.length a b ≠ [] := fun e => by
    rw [e] at d1 d2
    obtain ⟨q, -, -, e1⟩ := d1
    obtain ⟨u, -, -, e2⟩ := d2
    rw [mulL_nil_right] at e1 e2
    exact hne ⟨e1, e2⟩
  refine ⟨hn, g1, g2, d1, d2, ?_⟩
  generalize gcdF S P b.length a b = G at *
  have key : ∀ x : List Nat, x ≠ [] → Dv S P G x → G.length ≤ x.length := fun x hx ⟨q, _, _, e⟩ => by
    have hq : q ≠ [] := fun e' => hx (by rw [e, e', mulL_nil_left])
    have := List.length_pos_iff.2 hq
    rw [e, mulL_length hq hn]; omega
  by_cases h0 : a = []
  · have := key b (fun e => hne ⟨h0, e⟩) d2; omega
  · have := key a h0 d1; omega
theorem gcd_swap (h0 : b ≠ []) : gcdL S P b (divRest S P a b) = gcdL S P a b := by
  unfold gcdL; rw [gcdF_step hv ha hb tb h0]
theorem gcd_scale (hr : LtAll S r) (tr : Trimmed r) (hrn : r ≠ []) : gcdL S P (mulL S P a r) (mulL S P b r) = monL S P (mulL S P (gcdF S P b.length a b) r) := by
  unfold gcdL
  rw [gcdF_scale hv hr tr hrn _ a b ha hb tb]
  have hl : b.length ≤ (mulL S P b r).length := by
    by_cases h0 : b = []
    · subst h0; exact Nat.zero_le _
    · have := List.length_pos_iff.2 hrn
      rw [mulL_length h0 hrn]; omega
  rw [gcdF_enough hv b.length (mulL S P b r).length b.length a b ha hb tb (Nat.le_refl _) hl (Nat.le_refl _)]
end
open Go.RowKit
theorem gcdRes_ok {C S P : Nat} (hv : VF C S P) {a b : List Nat} (ha : LtAll S a) (ta : Trimmed a) (na : a.length ≤ 4097) (hb : LtAll S b) (tb : Trimmed b) (nb : b.length ≤ 4097) : gcdRes C S P (zl a) (zl b) = (zl (gcdL S P a b), 0) := by
  unfold gcdRes
  rw [show pvB C S P (zl a) = true from by unfold pvB; rw [vld_of hv, polB_zl ha na ta]; rfl, show pvB C S P (zl b) = true from by unfold pvB; rw [vld_of hv, polB_zl hb nb tb]; rfl, nl_zl, nl_zl]; rfl
set_option maxHeartbeats 1000000 in
theorem lrest_any (c s p : Int) (q r : Sl) (w : World) (hp : p ≤ 9223372036854775807) (hq : q.R w) (hr : r.R w) :
    Calls Try.prog 26 #[fldv c s p, q.v, r.v] w (RetV w (divRes c s p q.xs r.xs).2.1) := by
  have hbx := bwA w (fldB c s p)
  have HQ := Lib.hid (hq.below hbx)
  have HR := Lib.hid (hr.below hbx)
  clear hq hr hbx
  go_enter Try.func26, Try.ntmps26
  go_wp2_with (go_at_call 22; refine (pDivMod_any c s p q r _ hp HQ.out HR.out).mono ?_; rintro e w1 ⟨v1, u1, rfl, hI, hJ, hb1⟩; have HJ := Lib.hid hJ; have HB1 := Lib.hid hb1; clear hI hJ hb1)
  go_ret
  exact RetV.mk HJ.out (bw1 HB1.out)
section
variable (C S P : Nat) (w1 : World) (hp : (P : Int) ≤ 9223372036854775807) (W : World) (hW : Abv w1 W)
include hp hW
theorem LR_ (E : Option Addr) (k ce : Nat) (l : List Int) (G : Option Addr) (g cg : Nat) (l' L : List Int) (h1 : (divRes C S P l l').2.1 = L) (h2 : (⟨E, k, ce, l⟩ : Sl).R W) (h3 : (⟨G, g, cg, l'⟩ : Sl).R W) :
    Calls Try.prog 26 #[fldv C S P, .slice E k ce, .slice G g cg] W fun e W' => ∃ E' k' c', e = .returned (.slice E' k' c') ∧ (⟨E', k', c', L⟩ : Sl).R W' ∧ Abv w1 W' ∧ Below W.heap.size W W' := by
  refine (lrest_any C S P ⟨E, k, ce, l⟩ ⟨G, g, cg, l'⟩ W hp h2 h3).mono ?_
  rintro e W' ⟨v, rfl, hi, hb⟩
  simp only [h1] at hi
  obtain ⟨E', k', c', rfl, hr⟩ := hi.parts
  exact ⟨E', k', c', rfl, hr, bwStep hW hb, hb⟩
theorem LC_ (E : Option Addr) (k ce : Nat) (l : List Int) (G : Option Addr) (g cg : Nat) (l' L : List Int) (o : Int) (h1 : gcdRes C S P l l' = (L, o)) (h2 : (⟨E, k, ce, l⟩ : Sl).R W) (h3 : (⟨G, g, cg, l'⟩ : Sl).R W) :
    Calls Try.prog 24 #[fldv C S P, .slice E k ce, .slice G g cg] W fun e W' => ∃ E' k' c', e = .returned (.tuple #[.slice E' k' c', .int .i64 o]) ∧ (⟨E', k', c', L⟩ : Sl).R W' ∧ Abv w1 W' ∧ Below W.heap.size W W' := by
  refine (pGCD_any C S P ⟨E, k, ce, l⟩ ⟨G, g, cg, l'⟩ W hp h2 h3).mono ?_
  rintro e W' ⟨v, rfl, hi, hb⟩
  simp only [h1] at hi ⊢
  obtain ⟨E', k', c', rfl, hr⟩ := hi.parts
  exact ⟨E', k', c', rfl, hr, bwStep hW hb, hb⟩
end
end Go.Proofs.Ythpcneeidhmdkaa
namespace Go.Proofs.Ythpcneeidhmdkaa.polynomialEuclid
open Go.RowKit
set_option linter.unusedVariables false
set_option linter.unusedSimpArgs false
theorem Sl.R.cell {A : Option Addr} {n ca : Nat} {l : List Nat} {w : World} (h : (⟨A, n, ca, zl l⟩ : Sl).R w) (hn : 1 ≤ n) : ∃ ad, A = some ad ∧ ad.block < w.heap.size ∧ w.cell? (ad.add (n - 1)) = some (.int .i64 ((l.getD (l.length - 1) 0 : Nat) : Int)) := by
  have h1 : n = l.length := h.hn.trans (zl_length l)
  obtain ⟨ad, e, h2, h3⟩ := h.rd (by simp only; rw [zl_length]; omega)
  refine ⟨ad, e, h2, ?_⟩
  have := h3 (n - 1) (by simp only; rw [zl_length]; omega)
  simp only at this
  rw [this, zl_getD, h1]
set_option maxRecDepth 100000 in
set_option maxHeartbeats 4000000 in
theorem law_no (c s p : Int) (A : Option Addr) (n ca : Nat) (xs : List Int) (B : Option Addr) (m cb : Nat) (ys : List Int) (D : Option Addr) (k cd : Nat) (zs : List Int) (w : World) (hp : p ≤ 9223372036854775807) (hq : (⟨A, n, ca, xs⟩ : Sl).R w) (hr : (⟨B, m, cb, ys⟩ : Sl).R w) (ht : (⟨D, k, cd, zs⟩ : Sl).R w)
    (hV : (lvB c s p 40 xs && (lvB c s p 40 ys && lvB c s p 40 zs)) = false) :
    Calls Try.prog 7 #[fldv c s p, .slice A n ca, .slice B m cb, .slice D k cd] w fun e w' => e = .returned (.bool true) ∧ Below w.heap.size w w' := by
  have hbx : Below w.heap.size w (w.alloc (fldB c s p)) := (Below.refl _ _).alloc (Nat.le_refl _) _
  have HQ := Lib.hid (hq.below hbx)
  have HR := Lib.hid (hr.below hbx)
  have HU := Lib.hid (ht.below hbx)
  have HV := Lib.hid hV
  clear hV hq hr ht hbx
  go_enter Try.func7, Try.ntmps7
  go_wp2_with fail
  refine (lvalid3 c s p 40 40 rfl A B D n ca m cb k cd xs ys zs (w.heap.size + 1) _ 24 (by omega) hp (by simp) HQ.out HR.out HU.out).mono ?_
  rintro e w1 ⟨rfl, hb1⟩
  rw [HV.out]
  go_wp2_with fail
  refine (examples_any _).mono ?_
  rintro e w2 ⟨rfl, hb2⟩
  go_wp2_with fail
  go_ret
  exact ⟨rfl, bw1 (bwStep (bwStep (bwA _ _) hb1) hb2)⟩
set_option maxRecDepth 100000 in
set_option maxHeartbeats 8000000 in
theorem w111 (C S P : Nat) (a b d g x1 x2 x3 h : List Nat) (A : Option Addr) (n ca : Nat) (B : Option Addr) (m cb : Nat) (D : Option Addr) (k cd : Nat) (w : World) (hp : (P : Int) ≤ 9223372036854775807) (hq : (⟨A, n, ca, zl a⟩ : Sl).R w) (hr : (⟨B, m, cb, zl b⟩ : Sl).R w) (ht : (⟨D, k, cd, zl d⟩ : Sl).R w)
    (hV : (lvB C S P 40 (zl a) && (lvB C S P 40 (zl b) && lvB C S P 40 (zl d))) = true) (hm4 : m ≤ 40) (hn4 : n ≤ 40) (hk4 : k ≤ 40)
    (hm0 : 1 ≤ m) (hn0 : 1 ≤ n) (hk0 : 1 ≤ k)
    (Fg : Hid (gcdRes C S P (zl a) (zl b) = (zl g, 0))) (Hg1 : Hid (1 ≤ g.length)) (Hg2 : Hid (g.length ≤ 40)) (Hg3 : Hid (g.getD (g.length - 1) 0 = 1)) (Fa : Hid ((divRes C S P (zl a) (zl g)).2.1 = [])) (Fb : Hid ((divRes C S P (zl b) (zl g)).2.1 = [])) (Fab : Hid ((divRes C S P (zl a) (zl b)).2.1 = zl x3)) (Fg2 : Hid (gcdRes C S P (zl b) (zl x3) = (zl g, 0))) (M1 : Hid (mulRes C S P (zl a) (zl d) = (zl x1, 0))) (M2 : Hid (mulRes C S P (zl b) (zl d) = (zl x2, 0))) (Fh : Hid (gcdRes C S P (zl x1) (zl x2) = (zl h, 0))) (Fhd : Hid ((divRes C S P (zl h) (zl d)).2.1 = [])) (Fhg : Hid ((divRes C S P (zl h) (zl g)).2.1 = [])) (Hh : Hid (h.length = g.length + d.length - 1)) :
    Calls Try.prog 7 #[fldv C S P, .slice A n ca, .slice B m cb, .slice D k cd] w fun e w' => e = .returned (.bool true) ∧ Below w.heap.size w w' := by
  have hmz : ((m : Int) == 0) = false := by rw [beq_eq_false_iff_ne]; omega
  have hnz : ((n : Int) == 0) = false := by rw [beq_eq_false_iff_ne]; omega
  have hkz : ((k : Int) == 0) = false := by rw [beq_eq_false_iff_ne]; omega
  have hbx : Below w.heap.size w (w.alloc (fldB C S P)) := (Below.refl _ _).alloc (Nat.le_refl _) _
  have HQ := Lib.hid (hq.below hbx)
  have HR := Lib.hid (hr.below hbx)
  have HU := Lib.hid (ht.below hbx)
  have HKX : Hid (k = d.length) := ht.hn.trans (zl_length d)
  have CB : Hid (CellsAt (w.alloc (fldB C S P)) w.heap.size (fldC C S P)) := CellsAt.new _ _ _ _ rfl
  have HV := Lib.hid hV
  clear hV hq hr ht hbx
  go_enter Try.func7, Try.ntmps7
  go_wp2_with fail
  refine (lvalid3 C S P 40 40 rfl A B D n ca m cb k cd (zl a) (zl b) (zl d) (w.heap.size + 1) _ 24 (by omega) hp (by simp) HQ.out HR.out HU.out).mono ?_
  rintro e w1 ⟨rfl, hb1⟩
  rw [HV.out]
  have hbz := bwStep (bwA (w.alloc (fldB C S P)) (.cells #[.slice A n ca, .slice B m cb, .slice D k cd] 24)) hb1
  have HB1 : Hid (Below w.heap.size w w1) := bw1 hbz
  have HX1 : Hid (CellsAt w1 w.heap.size (fldC C S P)) := CB.out.below hbz
  have RA := Lib.hid (HQ.out.below hbz)
  have RB := Lib.hid (HR.out.below hbz)
  have RD_ := Lib.hid (HU.out.below hbz)
  have CF : Hid (∀ W, Abv w1 W → (W.cell? ⟨w.heap.size, 0, none⟩ = some (.int .i64 C) ∧ W.cell? ⟨w.heap.size, 1, none⟩ = some (.int .i64 S) ∧ W.cell? ⟨w.heap.size, 2, none⟩ = some (.int .i64 P))) := fun W hW => fldC_cells (HX1.out.below hW)
  clear hb1 hbz HQ HR HU CB HX1
  have G1 : Hid (Abv w1 w1) := Below.refl _ _
  obtain ⟨f0, f1, f2⟩ := CF.out _ G1.out
  go_wp2_with fail
  refine (LC_ C S P w1 hp _ G1.out _ _ _ _ _ _ _ _ _ _ Fg.out (RA.out.below G1.out) (RB.out.below G1.out)).mono ?_
  rintro e w2 ⟨E2, k2, c2, rfl, hr2, hB2, hN2⟩
  have R2 := Lib.hid hr2
  have G2 := Lib.hid hB2
  have N2 := Lib.hid hN2
  clear hr2 hB2 hN2 f0 f1 f2
  have hkg : k2 = g.length := R2.out.hn.trans (zl_length g)
  have hg1 : 1 ≤ k2 := by have := Hg1.out; omega
  have hg4 : k2 ≤ 40 := by have := Hg2.out; omega
  have HKG := Lib.hid hkg
  have hgz : ((k2 : Int) == 0) = false := by rw [beq_eq_false_iff_ne]; omega
  obtain ⟨ad, rfl, hadw, hcell⟩ := Sl.R.cell R2.out hg1
  rw [Hg3.out] at hcell
  obtain ⟨jg, hjg⟩ : ∃ jg, jg = k2 - 1 := ⟨_, rfl⟩
  rw [← hjg] at hcell
  have hjg1 : (k2 : Int) - 1 = (jg : Int) := by omega
  have hjg2 : jg < k2 := by omega
  clear hkg hjg
  obtain ⟨f0, f1, f2⟩ := CF.out _ G2.out
  go_wp2_with fail
  refine (LR_ C S P w1 hp _ G2.out _ _ _ _ _ _ _ _ _ Fa.out (RA.out.below G2.out) R2.out).mono ?_
  rintro e w3 ⟨E3, k3, c3, rfl, hr3, hB3, hN3⟩
  obtain rfl : k3 = 0 := hr3.hn
  have R3 := Lib.hid hr3
  have G3 := Lib.hid hB3
  have N3 := Lib.hid hN3
  clear hr3 hB3 hN3 f0 f1 f2
  obtain ⟨f0, f1, f2⟩ := CF.out _ G3.out
  go_wp2_with fail
  refine (LR_ C S P w1 hp _ G3.out _ _ _ _ _ _ _ _ _ Fb.out (RB.out.below G3.out) (R2.out.below N3.out)).mono ?_
  rintro e w4 ⟨E4, k4, c4, rfl, hr4, hB4, hN4⟩
  obtain rfl : k4 = 0 := hr4.hn
  have R4 := Lib.hid hr4
  have G4 := Lib.hid hB4
  have N4 := Lib.hid hN4
  clear hr4 hB4 hN4 f0 f1 f2
  clear hcell hjg1 hjg2 hgz
  go_wp2_with fail
  have G5 : Hid (Abv w1 w4.drew) := bwDrew G4.out
  have N5 : Hid (Below w4.heap.size w4 w4.drew) := bwDrew (Below.refl _ _)
  refine wp_region_W (S := Abv w1) [(false, 0), (false, 1), (false, 2), (false, 3), (false, 4), (true, 5), (true, 6), (false, 7), (false, 8), (false, 9), (false, 10), (false, 11)] (by kernel_rfl) (by kernel_rfl) G5.out ?_
  simp only [attachW, List.getElem?_cons_zero, List.getElem?_cons_succ]
  repeat
    first
    | refine' wpHX_val rfl (fun W hW => ?_) ?_
    | refine' wpHX_gval rfl (fun W hW => ?_) ?_
    rotate_left
    · have hcf := CF.out W hW; go_simp; rfl
    simp only [Act.put, List.setIfInBounds_toArray, List.set_cons_zero, List.set_cons_succ]
  refine' wpHX_acall rfl (fun W => ?_) ?_
  rotate_left 2
  · go_simp; exact ⟨rfl, rfl⟩
  refine (LR_ C S P w1 hp _ G5.out _ _ _ _ _ _ _ _ _ Fab.out (RA.out.below G5.out) (RB.out.below G5.out)).mono ?_
  rintro e w6 ⟨E6, k6, c6, rfl, hr6, hB6, hN6⟩
  have R6 := Lib.hid hr6
  have G6 := Lib.hid hB6
  have N6 := Lib.hid hN6
  clear hr6 hB6 hN6
  refine ⟨_, rfl, G6.out, ?_⟩
  simp only [Act.put, List.setIfInBounds_toArray, List.set_cons_zero, List.set_cons_succ]
  repeat
    first
    | refine' wpHX_val rfl (fun W hW => ?_) ?_
    | refine' wpHX_gval rfl (fun W hW => ?_) ?_
    rotate_left
    · have hcf := CF.out W hW; go_simp; rfl
    simp only [Act.put, List.setIfInBounds_toArray, List.set_cons_zero, List.set_cons_succ]
  refine' wpHX_acall rfl (fun W => ?_) ?_
  rotate_left 2
  · go_simp; exact ⟨rfl, rfl⟩
  refine (LC_ C S P w1 hp _ G6.out _ _ _ _ _ _ _ _ _ _ Fg2.out (RB.out.below G6.out) R6.out).mono ?_
  rintro e w7 ⟨E7, k7, c7, rfl, hr7, hB7, hN7⟩
  have R7 := Lib.hid hr7
  have G7 := Lib.hid hB7
  have N7 := Lib.hid hN7
  clear hr7 hB7 hN7
  refine ⟨_, rfl, G7.out, ?_⟩
  simp only [Act.put, List.setIfInBounds_toArray, List.set_cons_zero, List.set_cons_succ]
  repeat
    first
    | refine' wpHX_val rfl (fun W hW => ?_) ?_
    | refine' wpHX_gval rfl (fun W hW => ?_) ?_
    rotate_left
    · have hcf := CF.out W hW; go_simp; rfl
    simp only [Act.put, List.setIfInBounds_toArray, List.set_cons_zero, List.set_cons_succ]
  refine wpHX_nil ?_
  go_wp2_with fail
  refine (LS_ w1 _ G7.out _ _ _ _ _ _ _ R7.out (((((R2.out.below N3.out).below N4.out).below N5.out).below N6.out).below N7.out)).mono ?_
  rintro e w8 ⟨rfl, hB8, hN8⟩
  have G8 := Lib.hid hB8
  have N8 := Lib.hid hN8
  clear hB8 hN8
  go_wp2_with fail
  have G9 : Hid (Abv w1 w8.drew) := bwDrew G8.out
  have N9 : Hid (Below w8.heap.size w8 w8.drew) := bwDrew (Below.refl _ _)
  refine wp_region_W (S := Abv w1) [(false, 0), (false, 1), (false, 2), (false, 3), (false, 5), (false, 6), (false, 7), (true, 4), (true, 8), (true, 9), (false, 10), (false, 11), (false, 12), (false, 13), (false, 14)] (by kernel_rfl) (by kernel_rfl) G9.out ?_
  simp only [attachW, List.getElem?_cons_zero, List.getElem?_cons_succ]
  repeat
    first
    | refine' wpHX_val rfl (fun W hW => ?_) ?_
    | refine' wpHX_gval rfl (fun W hW => ?_) ?_
    rotate_left
    · have hcf := CF.out W hW; go_simp; rfl
    simp only [Act.put, List.setIfInBounds_toArray, List.set_cons_zero, List.set_cons_succ]
  refine' wpHX_acall rfl (fun W => ?_) ?_
  rotate_left 2
  · go_simp; exact ⟨rfl, rfl⟩
  refine (LM_ C S P w1 hp _ G9.out _ _ _ _ _ _ _ _ _ _ M1.out (RA.out.below G9.out) (RD_.out.below G9.out)).mono ?_
  rintro e w10 ⟨E10, k10, c10, rfl, hr10, hB10, hN10⟩
  have R10 := Lib.hid hr10
  have G10 := Lib.hid hB10
  have N10 := Lib.hid hN10
  clear hr10 hB10 hN10
  refine ⟨_, rfl, G10.out, ?_⟩
  simp only [Act.put, List.setIfInBounds_toArray, List.set_cons_zero, List.set_cons_succ]
  repeat
    first
    | refine' wpHX_val rfl (fun W hW => ?_) ?_
    | refine' wpHX_gval rfl (fun W hW => ?_) ?_
    rotate_left
    · have hcf := CF.out W hW; go_simp; rfl
    simp only [Act.put, List.setIfInBounds_toArray, List.set_cons_zero, List.set_cons_succ]
  refine' wpHX_acall rfl (fun W => ?_) ?_
  rotate_left 2
  · go_simp; exact ⟨rfl, rfl⟩
  refine (LM_ C S P w1 hp _ G10.out _ _ _ _ _ _ _ _ _ _ M2.out (RB.out.below G10.out) (RD_.out.below G10.out)).mono ?_
  rintro e w11 ⟨E11, k11, c11, rfl, hr11, hB11, hN11⟩
  have R11 := Lib.hid hr11
  have G11 := Lib.hid hB11
  have N11 := Lib.hid hN11
  clear hr11 hB11 hN11
  refine ⟨_, rfl, G11.out, ?_⟩
  simp only [Act.put, List.setIfInBounds_toArray, List.set_cons_zero, List.set_cons_succ]
  repeat
    first
    | refine' wpHX_val rfl (fun W hW => ?_) ?_
    | refine' wpHX_gval rfl (fun W hW => ?_) ?_
    rotate_left
    · have hcf := CF.out W hW; go_simp; rfl
    simp only [Act.put, List.setIfInBounds_toArray, List.set_cons_zero, List.set_cons_succ]
  refine' wpHX_acall rfl (fun W => ?_) ?_
  rotate_left 2
  · go_simp; exact ⟨rfl, rfl⟩
  refine (LC_ C S P w1 hp _ G11.out _ _ _ _ _ _ _ _ _ _ Fh.out (R10.out.below N11.out) R11.out).mono ?_
  rintro e w12 ⟨E12, k12, c12, rfl, hr12, hB12, hN12⟩
  have R12 := Lib.hid hr12
  have G12 := Lib.hid hB12
  have N12 := Lib.hid hN12
  clear hr12 hB12 hN12
  refine ⟨_, rfl, G12.out, ?_⟩
  simp only [Act.put, List.setIfInBounds_toArray, List.set_cons_zero, List.set_cons_succ]
  repeat
    first
    | refine' wpHX_val rfl (fun W hW => ?_) ?_
    | refine' wpHX_gval rfl (fun W hW => ?_) ?_
    rotate_left
    · have hcf := CF.out W hW; go_simp; rfl
    simp only [Act.put, List.setIfInBounds_toArray, List.set_cons_zero, List.set_cons_succ]
  refine wpHX_nil ?_
  have hsum : (k2 : Int) + (k : Int) - 1 = (k12 : Int) := by have h1 := HKG.out; have h2 := HKX.out; have h3 : k12 = h.length := R12.out.hn.trans (zl_length h); have h4 := Hh.out; have h5 := Hg1.out; omega
  obtain ⟨f0, f1, f2⟩ := CF.out _ G12.out
  go_wp2_with fail
  refine (LR_ C S P w1 hp _ G12.out _ _ _ _ _ _ _ _ _ Fhd.out R12.out (RD_.out.below G12.out)).mono ?_
  rintro e w13 ⟨E13, k13, c13, rfl, hr13, hB13, hN13⟩
  obtain rfl : k13 = 0 := hr13.hn
  have R13 := Lib.hid hr13
  have G13 := Lib.hid hB13
  have N13 := Lib.hid hN13
  clear hr13 hB13 hN13 f0 f1 f2
  obtain ⟨f0, f1, f2⟩ := CF.out _ G13.out
  go_wp2_with fail
  refine (LR_ C S P w1 hp _ G13.out _ _ _ _ _ _ _ _ _ Fhg.out (R12.out.below N13.out) (((((((((((R2.out.below N3.out).below N4.out).below N5.out).below N6.out).below N7.out).below N8.out).below N9.out).below N10.out).below N11.out).below N12.out).below N13.out)).mono ?_
  rintro e w14 ⟨E14, k14, c14, rfl, hr14, hB14, hN14⟩
  obtain rfl : k14 = 0 := hr14.hn
  have R14 := Lib.hid hr14
  have G14 := Lib.hid hB14
  have N14 := Lib.hid hN14
  clear hr14 hB14 hN14 f0 f1 f2
  go_wp2_with fail
  refine (LX_ w1 _ G14.out).mono ?_
  rintro e w15 ⟨rfl, hB15, hN15⟩
  have G15 := Lib.hid hB15
  have N15 := Lib.hid hN15
  clear hB15 hN15
  go_wp2_with fail
  go_ret
  exact ⟨rfl, bwStep HB1.out G15.out⟩
set_option maxRecDepth 100000 in
set_option maxHeartbeats 8000000 in
theorem w110 (C S P : Nat) (a b d g x1 x2 x3 h : List Nat) (A : Option Addr) (n ca : Nat) (B : Option Addr) (m cb : Nat) (D : Option Addr) (k cd : Nat) (w : World) (hp : (P : Int) ≤ 9223372036854775807) (hq : (⟨A, n, ca, zl a⟩ : Sl).R w) (hr : (⟨B, m, cb, zl b⟩ : Sl).R w) (ht : (⟨D, k, cd, zl d⟩ : Sl).R w)
    (hV : (lvB C S P 40 (zl a) && (lvB C S P 40 (zl b) && lvB C S P 40 (zl d))) = true) (hm4 : m ≤ 40) (hn4 : n ≤ 40) (hk4 : k ≤ 40)
    (hm0 : 1 ≤ m) (hn0 : 1 ≤ n) (hk0 : k = 0)
    (Fg : Hid (gcdRes C S P (zl a) (zl b) = (zl g, 0))) (Hg1 : Hid (1 ≤ g.length)) (Hg2 : Hid (g.length ≤ 40)) (Hg3 : Hid (g.getD (g.length - 1) 0 = 1)) (Fa : Hid ((divRes C S P (zl a) (zl g)).2.1 = [])) (Fb : Hid ((divRes C S P (zl b) (zl g)).2.1 = [])) (Fab : Hid ((divRes C S P (zl a) (zl b)).2.1 = zl x3)) (Fg2 : Hid (gcdRes C S P (zl b) (zl x3) = (zl g, 0))) :
    Calls Try.prog 7 #[fldv C S P, .slice A n ca, .slice B m cb, .slice D k cd] w fun e w' => e = .returned (.bool true) ∧ Below w.heap.size w w' := by
  have hmz : ((m : Int) == 0) = false := by rw [beq_eq_false_iff_ne]; omega
  have hnz : ((n : Int) == 0) = false := by rw [beq_eq_false_iff_ne]; omega
  subst hk0
  have hbx : Below w.heap.size w (w.alloc (fldB C S P)) := (Below.refl _ _).alloc (Nat.le_refl _) _
  have HQ := Lib.hid (hq.below hbx)
  have HR := Lib.hid (hr.below hbx)
  have HU := Lib.hid (ht.below hbx)
  have CB : Hid (CellsAt (w.alloc (fldB C S P)) w.heap.size (fldC C S P)) := CellsAt.new _ _ _ _ rfl
  have HV := Lib.hid hV
  clear hV hq hr ht hbx
  go_enter Try.func7, Try.ntmps7
  go_wp2_with fail
  refine (lvalid3 C S P 40 40 rfl A B D n ca m cb 0 cd (zl a) (zl b) (zl d) (w.heap.size + 1) _ 24 (by omega) hp (by simp) HQ.out HR.out HU.out).mono ?_
  rintro e w1 ⟨rfl, hb1⟩
  rw [HV.out]
  have hbz := bwStep (bwA (w.alloc (fldB C S P)) (.cells #[.slice A n ca, .slice B m cb, .slice D 0 cd] 24)) hb1
  have HB1 : Hid (Below w.heap.size w w1) := bw1 hbz
  have HX1 : Hid (CellsAt w1 w.heap.size (fldC C S P)) := CB.out.below hbz
  have RA := Lib.hid (HQ.out.below hbz)
  have RB := Lib.hid (HR.out.below hbz)
  have RD_ := Lib.hid (HU.out.below hbz)
  have CF : Hid (∀ W, Abv w1 W → (W.cell? ⟨w.heap.size, 0, none⟩ = some (.int .i64 C) ∧ W.cell? ⟨w.heap.size, 1, none⟩ = some (.int .i64 S) ∧ W.cell? ⟨w.heap.size, 2, none⟩ = some (.int .i64 P))) := fun W hW => fldC_cells (HX1.out.below hW)
  clear hb1 hbz HQ HR HU CB HX1
  have G1 : Hid (Abv w1 w1) := Below.refl _ _
  obtain ⟨f0, f1, f2⟩ := CF.out _ G1.out
  go_wp2_with fail
  refine (LC_ C S P w1 hp _ G1.out _ _ _ _ _ _ _ _ _ _ Fg.out (RA.out.below G1.out) (RB.out.below G1.out)).mono ?_
  rintro e w2 ⟨E2, k2, c2, rfl, hr2, hB2, hN2⟩
  have R2 := Lib.hid hr2
  have G2 := Lib.hid hB2
  have N2 := Lib.hid hN2
  clear hr2 hB2 hN2 f0 f1 f2
  have hkg : k2 = g.length := R2.out.hn.trans (zl_length g)
  have hg1 : 1 ≤ k2 := by have := Hg1.out; omega
  have hg4 : k2 ≤ 40 := by have := Hg2.out; omega
  have HKG := Lib.hid hkg
  have hgz : ((k2 : Int) == 0) = false := by rw [beq_eq_false_iff_ne]; omega
  obtain ⟨ad, rfl, hadw, hcell⟩ := Sl.R.cell R2.out hg1
  rw [Hg3.out] at hcell
  obtain ⟨jg, hjg⟩ : ∃ jg, jg = k2 - 1 := ⟨_, rfl⟩
  rw [← hjg] at hcell
  have hjg1 : (k2 : Int) - 1 = (jg : Int) := by omega
  have hjg2 : jg < k2 := by omega
  clear hkg hjg
  obtain ⟨f0, f1, f2⟩ := CF.out _ G2.out
  go_wp2_with fail
  refine (LR_ C S P w1 hp _ G2.out _ _ _ _ _ _ _ _ _ Fa.out (RA.out.below G2.out) R2.out).mono ?_
  rintro e w3 ⟨E3, k3, c3, rfl, hr3, hB3, hN3⟩
  obtain rfl : k3 = 0 := hr3.hn
  have R3 := Lib.hid hr3
  have G3 := Lib.hid hB3
  have N3 := Lib.hid hN3
  clear hr3 hB3 hN3 f0 f1 f2
  obtain ⟨f0, f1, f2⟩ := CF.out _ G3.out
  go_wp2_with fail
  refine (LR_ C S P w1 hp _ G3.out _ _ _ _ _ _ _ _ _ Fb.out (RB.out.below G3.out) (R2.out.below N3.out)).mono ?_
  rintro e w4 ⟨E4, k4, c4, rfl, hr4, hB4, hN4⟩
  obtain rfl : k4 = 0 := hr4.hn
  have R4 := Lib.hid hr4
  have G4 := Lib.hid hB4
  have N4 := Lib.hid hN4
  clear hr4 hB4 hN4 f0 f1 f2
  clear hcell hjg1 hjg2 hgz
  go_wp2_with fail
  have G5 : Hid (Abv w1 w4.drew) := bwDrew G4.out
  have N5 : Hid (Below w4.heap.size w4 w4.drew) := bwDrew (Below.refl _ _)
  refine wp_region_W (S := Abv w1) [(false, 0), (false, 1), (false, 2), (false, 3), (false, 4), (true, 5), (true, 6), (false, 7), (false, 8), (false, 9), (false, 10), (false, 11)] (by kernel_rfl) (by kernel_rfl) G5.out ?_
  simp only [attachW, List.getElem?_cons_zero, List.getElem?_cons_succ]
  repeat
    first
    | refine' wpHX_val rfl (fun W hW => ?_) ?_
    | refine' wpHX_gval rfl (fun W hW => ?_) ?_
    rotate_left
    · have hcf := CF.out W hW; go_simp; rfl
    simp only [Act.put, List.setIfInBounds_toArray, List.set_cons_zero, List.set_cons_succ]
  refine' wpHX_acall rfl (fun W => ?_) ?_
  rotate_left 2
  · go_simp; exact ⟨rfl, rfl⟩
  refine (LR_ C S P w1 hp _ G5.out _ _ _ _ _ _ _ _ _ Fab.out (RA.out.below G5.out) (RB.out.below G5.out)).mono ?_
  rintro e w6 ⟨E6, k6, c6, rfl, hr6, hB6, hN6⟩
  have R6 := Lib.hid hr6
  have G6 := Lib.hid hB6
  have N6 := Lib.hid hN6
  clear hr6 hB6 hN6
  refine ⟨_, rfl, G6.out, ?_⟩
  simp only [Act.put, List.setIfInBounds_toArray, List.set_cons_zero, List.set_cons_succ]
  repeat
    first
    | refine' wpHX_val rfl (fun W hW => ?_) ?_
    | refine' wpHX_gval rfl (fun W hW => ?_) ?_
    rotate_left
    · have hcf := CF.out W hW; go_simp; rfl
    simp only [Act.put, List.setIfInBounds_toArray, List.set_cons_zero, List.set_cons_succ]
  refine' wpHX_acall rfl (fun W => ?_) ?_
  rotate_left 2
  · go_simp; exact ⟨rfl, rfl⟩
  refine (LC_ C S P w1 hp _ G6.out _ _ _ _ _ _ _ _ _ _ Fg2.out (RB.out.below G6.out) R6.out).mono ?_
  rintro e w7 ⟨E7, k7, c7, rfl, hr7, hB7, hN7⟩
  have R7 := Lib.hid hr7
  have G7 := Lib.hid hB7
  have N7 := Lib.hid hN7
  clear hr7 hB7 hN7
  refine ⟨_, rfl, G7.out, ?_⟩
  simp only [Act.put, List.setIfInBounds_toArray, List.set_cons_zero, List.set_cons_succ]
  repeat
    first
    | refine' wpHX_val rfl (fun W hW => ?_) ?_
    | refine' wpHX_gval rfl (fun W hW => ?_) ?_
    rotate_left
    · have hcf := CF.out W hW; go_simp; rfl
    simp only [Act.put, List.setIfInBounds_toArray, List.set_cons_zero, List.set_cons_succ]
  refine wpHX_nil ?_
  go_wp2_with fail
  refine (LS_ w1 _ G7.out _ _ _ _ _ _ _ R7.out (((((R2.out.below N3.out).below N4.out).below N5.out).below N6.out).below N7.out)).mono ?_
  rintro e w8 ⟨rfl, hB8, hN8⟩
  have G8 := Lib.hid hB8
  have N8 := Lib.hid hN8
  clear hB8 hN8
  go_wp2_with fail
  refine (LX_ w1 _ G8.out).mono ?_
  rintro e w9 ⟨rfl, hB9, hN9⟩
  have G9 := Lib.hid hB9
  have N9 := Lib.hid hN9
  clear hB9 hN9
  go_wp2_with fail
  go_ret
  exact ⟨rfl, bwStep HB1.out G9.out⟩
set_option maxRecDepth 100000 in
set_option maxHeartbeats 8000000 in
theorem w101 (C S P : Nat) (a b d g x1 x2 x3 h : List Nat) (A : Option Addr) (n ca : Nat) (B : Option Addr) (m cb : Nat) (D : Option Addr) (k cd : Nat) (w : World) (hp : (P : Int) ≤ 9223372036854775807) (hq : (⟨A, n, ca, zl a⟩ : Sl).R w) (hr : (⟨B, m, cb, zl b⟩ : Sl).R w) (ht : (⟨D, k, cd, zl d⟩ : Sl).R w)
    (hV : (lvB C S P 40 (zl a) && (lvB C S P 40 (zl b) && lvB C S P 40 (zl d))) = true) (hm4 : m ≤ 40) (hn4 : n ≤ 40) (hk4 : k ≤ 40)
    (hm0 : m = 0) (hn0 : 1 ≤ n) (hk0 : 1 ≤ k)
    (Fg : Hid (gcdRes C S P (zl a) (zl b) = (zl g, 0))) (Hg1 : Hid (1 ≤ g.length)) (Hg2 : Hid (g.length ≤ 40)) (Hg3 : Hid (g.getD (g.length - 1) 0 = 1)) (Fa : Hid ((divRes C S P (zl a) (zl g)).2.1 = [])) (Fb : Hid ((divRes C S P (zl b) (zl g)).2.1 = [])) (M1 : Hid (mulRes C S P (zl a) (zl d) = (zl x1, 0))) (M2 : Hid (mulRes C S P (zl b) (zl d) = (zl x2, 0))) (Fh : Hid (gcdRes C S P (zl x1) (zl x2) = (zl h, 0))) (Fhd : Hid ((divRes C S P (zl h) (zl d)).2.1 = [])) (Fhg : Hid ((divRes C S P (zl h) (zl g)).2.1 = [])) (Hh : Hid (h.length = g.length + d.length - 1)) :
    Calls Try.prog 7 #[fldv C S P, .slice A n ca, .slice B m cb, .slice D k cd] w fun e w' => e = .returned (.bool true) ∧ Below w.heap.size w w' := by
  subst hm0
  have hnz : ((n : Int) == 0) = false := by rw [beq_eq_false_iff_ne]; omega
  have hkz : ((k : Int) == 0) = false := by rw [beq_eq_false_iff_ne]; omega
  have hbx : Below w.heap.size w (w.alloc (fldB C S P)) := (Below.refl _ _).alloc (Nat.le_refl _) _
  have HQ := Lib.hid (hq.below hbx)
  have HR := Lib.hid (hr.below hbx)
  have HU := Lib.hid (ht.below hbx)
  have HKX : Hid (k = d.length) := ht.hn.trans (zl_length d)
  have CB : Hid (CellsAt (w.alloc (fldB C S P)) w.heap.size (fldC C S P)) := CellsAt.new _ _ _ _ rfl
  have HV := Lib.hid hV
  clear hV hq hr ht hbx
  go_enter Try.func7, Try.ntmps7
  go_wp2_with fail
  refine (lvalid3 C S P 40 40 rfl A B D n ca 0 cb k cd (zl a) (zl b) (zl d) (w.heap.size + 1) _ 24 (by omega) hp (by simp) HQ.out HR.out HU.out).mono ?_
  rintro e w1 ⟨rfl, hb1⟩
  rw [HV.out]
  have hbz := bwStep (bwA (w.alloc (fldB C S P)) (.cells #[.slice A n ca, .slice B 0 cb, .slice D k cd] 24)) hb1
  have HB1 : Hid (Below w.heap.size w w1) := bw1 hbz
  have HX1 : Hid (CellsAt w1 w.heap.size (fldC C S P)) := CB.out.below hbz
  have RA := Lib.hid (HQ.out.below hbz)
  have RB := Lib.hid (HR.out.below hbz)
  have RD_ := Lib.hid (HU.out.below hbz)
  have CF : Hid (∀ W, Abv w1 W → (W.cell? ⟨w.heap.size, 0, none⟩ = some (.int .i64 C) ∧ W.cell? ⟨w.heap.size, 1, none⟩ = some (.int .i64 S) ∧ W.cell? ⟨w.heap.size, 2, none⟩ = some (.int .i64 P))) := fun W hW => fldC_cells (HX1.out.below hW)
  clear hb1 hbz HQ HR HU CB HX1
  have G1 : Hid (Abv w1 w1) := Below.refl _ _
  obtain ⟨f0, f1, f2⟩ := CF.out _ G1.out
  go_wp2_with fail
  refine (LC_ C S P w1 hp _ G1.out _ _ _ _ _ _ _ _ _ _ Fg.out (RA.out.below G1.out) (RB.out.below G1.out)).mono ?_
  rintro e w2 ⟨E2, k2, c2, rfl, hr2, hB2, hN2⟩
  have R2 := Lib.hid hr2
  have G2 := Lib.hid hB2
  have N2 := Lib.hid hN2
  clear hr2 hB2 hN2 f0 f1 f2
  have hkg : k2 = g.length := R2.out.hn.trans (zl_length g)
  have hg1 : 1 ≤ k2 := by have := Hg1.out; omega
  have hg4 : k2 ≤ 40 := by have := Hg2.out; omega
  have HKG := Lib.hid hkg
  have hgz : ((k2 : Int) == 0) = false := by rw [beq_eq_false_iff_ne]; omega
  obtain ⟨ad, rfl, hadw, hcell⟩ := Sl.R.cell R2.out hg1
  rw [Hg3.out] at hcell
  obtain ⟨jg, hjg⟩ : ∃ jg, jg = k2 - 1 := ⟨_, rfl⟩
  rw [← hjg] at hcell
  have hjg1 : (k2 : Int) - 1 = (jg : Int) := by omega
  have hjg2 : jg < k2 := by omega
  clear hkg hjg
  obtain ⟨f0, f1, f2⟩ := CF.out _ G2.out
  go_wp2_with fail
  refine (LR_ C S P w1 hp _ G2.out _ _ _ _ _ _ _ _ _ Fa.out (RA.out.below G2.out) R2.out).mono ?_
  rintro e w3 ⟨E3, k3, c3, rfl, hr3, hB3, hN3⟩
  obtain rfl : k3 = 0 := hr3.hn
  have R3 := Lib.hid hr3
  have G3 := Lib.hid hB3
  have N3 := Lib.hid hN3
  clear hr3 hB3 hN3 f0 f1 f2
  obtain ⟨f0, f1, f2⟩ := CF.out _ G3.out
  go_wp2_with fail
  refine (LR_ C S P w1 hp _ G3.out _ _ _ _ _ _ _ _ _ Fb.out (RB.out.below G3.out) (R2.out.below N3.out)).mono ?_
  rintro e w4 ⟨E4, k4, c4, rfl, hr4, hB4, hN4⟩
  obtain rfl : k4 = 0 := hr4.hn
  have R4 := Lib.hid hr4
  have G4 := Lib.hid hB4
  have N4 := Lib.hid hN4
  clear hr4 hB4 hN4 f0 f1 f2
  clear hcell hjg1 hjg2 hgz
  go_wp2_with fail
  have G5 : Hid (Abv w1 w4.drew) := bwDrew G4.out
  have N5 : Hid (Below w4.heap.size w4 w4.drew) := bwDrew (Below.refl _ _)
  refine wp_region_W (S := Abv w1) [(false, 0), (false, 1), (false, 2), (false, 3), (false, 5), (false, 6), (false, 7), (true, 4), (true, 8), (true, 9), (false, 10), (false, 11), (false, 12), (false, 13), (false, 14)] (by kernel_rfl) (by kernel_rfl) G5.out ?_
  simp only [attachW, List.getElem?_cons_zero, List.getElem?_cons_succ]
  repeat
    first
    | refine' wpHX_val rfl (fun W hW => ?_) ?_
    | refine' wpHX_gval rfl (fun W hW => ?_) ?_
    rotate_left
    · have hcf := CF.out W hW; go_simp; rfl
    simp only [Act.put, List.setIfInBounds_toArray, List.set_cons_zero, List.set_cons_succ]
  refine' wpHX_acall rfl (fun W => ?_) ?_
  rotate_left 2
  · go_simp; exact ⟨rfl, rfl⟩
  refine (LM_ C S P w1 hp _ G5.out _ _ _ _ _ _ _ _ _ _ M1.out (RA.out.below G5.out) (RD_.out.below G5.out)).mono ?_
  rintro e w6 ⟨E6, k6, c6, rfl, hr6, hB6, hN6⟩
  have R6 := Lib.hid hr6
  have G6 := Lib.hid hB6
  have N6 := Lib.hid hN6
  clear hr6 hB6 hN6
  refine ⟨_, rfl, G6.out, ?_⟩
  simp only [Act.put, List.setIfInBounds_toArray, List.set_cons_zero, List.set_cons_succ]
  repeat
    first
    | refine' wpHX_val rfl (fun W hW => ?_) ?_
    | refine' wpHX_gval rfl (fun W hW => ?_) ?_
    rotate_left
    · have hcf := CF.out W hW; go_simp; rfl
    simp only [Act.put, List.setIfInBounds_toArray, List.set_cons_zero, List.set_cons_succ]
  refine' wpHX_acall rfl (fun W => ?_) ?_
  rotate_left 2
  · go_simp; exact ⟨rfl, rfl⟩
  refine (LM_ C S P w1 hp _ G6.out _ _ _ _ _ _ _ _ _ _ M2.out (RB.out.below G6.out) (RD_.out.below G6.out)).mono ?_
  rintro e w7 ⟨E7, k7, c7, rfl, hr7, hB7, hN7⟩
  have R7 := Lib.hid hr7
  have G7 := Lib.hid hB7
  have N7 := Lib.hid hN7
  clear hr7 hB7 hN7
  refine ⟨_, rfl, G7.out, ?_⟩
  simp only [Act.put, List.setIfInBounds_toArray, List.set_cons_zero, List.set_cons_succ]
  repeat
    first
    | refine' wpHX_val rfl (fun W hW => ?_) ?_
    | refine' wpHX_gval rfl (fun W hW => ?_) ?_
    rotate_left
    · have hcf := CF.out W hW; go_simp; rfl
    simp only [Act.put, List.setIfInBounds_toArray, List.set_cons_zero, List.set_cons_succ]
  refine' wpHX_acall rfl (fun W => ?_) ?_
  rotate_left 2
  · go_simp; exact ⟨rfl, rfl⟩
  refine (LC_ C S P w1 hp _ G7.out _ _ _ _ _ _ _ _ _ _ Fh.out (R6.out.below N7.out) R7.out).mono ?_
  rintro e w8 ⟨E8, k8, c8, rfl, hr8, hB8, hN8⟩
  have R8 := Lib.hid hr8
  have G8 := Lib.hid hB8
  have N8 := Lib.hid hN8
  clear hr8 hB8 hN8
  refine ⟨_, rfl, G8.out, ?_⟩
  simp only [Act.put, List.setIfInBounds_toArray, List.set_cons_zero, List.set_cons_succ]
  repeat
    first
    | refine' wpHX_val rfl (fun W hW => ?_) ?_
    | refine' wpHX_gval rfl (fun W hW => ?_) ?_
    rotate_left
    · have hcf := CF.out W hW; go_simp; rfl
    simp only [Act.put, List.setIfInBounds_toArray, List.set_cons_zero, List.set_cons_succ]
  refine wpHX_nil ?_
  have hsum : (k2 : Int) + (k : Int) - 1 = (k8 : Int) := by have h1 := HKG.out; have h2 := HKX.out; have h3 : k8 = h.length := R8.out.hn.trans (zl_length h); have h4 := Hh.out; have h5 := Hg1.out; omega
  obtain ⟨f0, f1, f2⟩ := CF.out _ G8.out
  go_wp2_with fail
  refine (LR_ C S P w1 hp _ G8.out _ _ _ _ _ _ _ _ _ Fhd.out R8.out (RD_.out.below G8.out)).mono ?_
  rintro e w9 ⟨E9, k9, c9, rfl, hr9, hB9, hN9⟩
  obtain rfl : k9 = 0 := hr9.hn
  have R9 := Lib.hid hr9
  have G9 := Lib.hid hB9
  have N9 := Lib.hid hN9
  clear hr9 hB9 hN9 f0 f1 f2
  obtain ⟨f0, f1, f2⟩ := CF.out _ G9.out
  go_wp2_with fail
  refine (LR_ C S P w1 hp _ G9.out _ _ _ _ _ _ _ _ _ Fhg.out (R8.out.below N9.out) (((((((R2.out.below N3.out).below N4.out).below N5.out).below N6.out).below N7.out).below N8.out).below N9.out)).mono ?_
  rintro e w10 ⟨E10, k10, c10, rfl, hr10, hB10, hN10⟩
  obtain rfl : k10 = 0 := hr10.hn
  have R10 := Lib.hid hr10
  have G10 := Lib.hid hB10
  have N10 := Lib.hid hN10
  clear hr10 hB10 hN10 f0 f1 f2
  go_wp2_with fail
  refine (LX_ w1 _ G10.out).mono ?_
  rintro e w11 ⟨rfl, hB11, hN11⟩
  have G11 := Lib.hid hB11
  have N11 := Lib.hid hN11
  clear hB11 hN11
  go_wp2_with fail
  go_ret
  exact ⟨rfl, bwStep HB1.out G11.out⟩
set_option maxRecDepth 100000 in
set_option maxHeartbeats 8000000 in
theorem w100 (C S P : Nat) (a b d g x1 x2 x3 h : List Nat) (A : Option Addr) (n ca : Nat) (B : Option Addr) (m cb : Nat) (D : Option Addr) (k cd : Nat) (w : World) (hp : (P : Int) ≤ 9223372036854775807) (hq : (⟨A, n, ca, zl a⟩ : Sl).R w) (hr : (⟨B, m, cb, zl b⟩ : Sl).R w) (ht : (⟨D, k, cd, zl d⟩ : Sl).R w)
    (hV : (lvB C S P 40 (zl a) && (lvB C S P 40 (zl b) && lvB C S P 40 (zl d))) = true) (hm4 : m ≤ 40) (hn4 : n ≤ 40) (hk4 : k ≤ 40)
    (hm0 : m = 0) (hn0 : 1 ≤ n) (hk0 : k = 0)
    (Fg : Hid (gcdRes C S P (zl a) (zl b) = (zl g, 0))) (Hg1 : Hid (1 ≤ g.length)) (Hg2 : Hid (g.length ≤ 40)) (Hg3 : Hid (g.getD (g.length - 1) 0 = 1)) (Fa : Hid ((divRes C S P (zl a) (zl g)).2.1 = [])) (Fb : Hid ((divRes C S P (zl b) (zl g)).2.1 = [])) :
    Calls Try.prog 7 #[fldv C S P, .slice A n ca, .slice B m cb, .slice D k cd] w fun e w' => e = .returned (.bool true) ∧ Below w.heap.size w w' := by
  subst hm0
  have hnz : ((n : Int) == 0) = false := by rw [beq_eq_false_iff_ne]; omega
  subst hk0
  have hbx : Below w.heap.size w (w.alloc (fldB C S P)) := (Below.refl _ _).alloc (Nat.le_refl _) _
  have HQ := Lib.hid (hq.below hbx)
  have HR := Lib.hid (hr.below hbx)
  have HU := Lib.hid (ht.below hbx)
  have CB : Hid (CellsAt (w.alloc (fldB C S P)) w.heap.size (fldC C S P)) := CellsAt.new _ _ _ _ rfl
  have HV := Lib.hid hV
  clear hV hq hr ht hbx
  go_enter Try.func7, Try.ntmps7
  go_wp2_with fail
  refine (lvalid3 C S P 40 40 rfl A B D n ca 0 cb 0 cd (zl a) (zl b) (zl d) (w.heap.size + 1) _ 24 (by omega) hp (by simp) HQ.out HR.out HU.out).mono ?_
  rintro e w1 ⟨rfl, hb1⟩
  rw [HV.out]
  have hbz := bwStep (bwA (w.alloc (fldB C S P)) (.cells #[.slice A n ca, .slice B 0 cb, .slice D 0 cd] 24)) hb1
  have HB1 : Hid (Below w.heap.size w w1) := bw1 hbz
  have HX1 : Hid (CellsAt w1 w.heap.size (fldC C S P)) := CB.out.below hbz
  have RA := Lib.hid (HQ.out.below hbz)
  have RB := Lib.hid (HR.out.below hbz)
  have RD_ := Lib.hid (HU.out.below hbz)
  have CF : Hid (∀ W, Abv w1 W → (W.cell? ⟨w.heap.size, 0, none⟩ = some (.int .i64 C) ∧ W.cell? ⟨w.heap.size, 1, none⟩ = some (.int .i64 S) ∧ W.cell? ⟨w.heap.size, 2, none⟩ = some (.int .i64 P))) := fun W hW => fldC_cells (HX1.out.below hW)
  clear hb1 hbz HQ HR HU CB HX1
  have G1 : Hid (Abv w1 w1) := Below.refl _ _
  obtain ⟨f0, f1, f2⟩ := CF.out _ G1.out
  go_wp2_with fail
  refine (LC_ C S P w1 hp _ G1.out _ _ _ _ _ _ _ _ _ _ Fg.out (RA.out.below G1.out) (RB.out.below G1.out)).mono ?_
  rintro e w2 ⟨E2, k2, c2, rfl, hr2, hB2, hN2⟩
  have R2 := Lib.hid hr2
  have G2 := Lib.hid hB2
  have N2 := Lib.hid hN2
  clear hr2 hB2 hN2 f0 f1 f2
  have hkg : k2 = g.length := R2.out.hn.trans (zl_length g)
  have hg1 : 1 ≤ k2 := by have := Hg1.out; omega
  have hg4 : k2 ≤ 40 := by have := Hg2.out; omega
  have HKG := Lib.hid hkg
  have hgz : ((k2 : Int) == 0) = false := by rw [beq_eq_false_iff_ne]; omega
  obtain ⟨ad, rfl, hadw, hcell⟩ := Sl.R.cell R2.out hg1
  rw [Hg3.out] at hcell
  obtain ⟨jg, hjg⟩ : ∃ jg, jg = k2 - 1 := ⟨_, rfl⟩
  rw [← hjg] at hcell
  have hjg1 : (k2 : Int) - 1 = (jg : Int) := by omega
  have hjg2 : jg < k2 := by omega
  clear hkg hjg
  obtain ⟨f0, f1, f2⟩ := CF.out _ G2.out
  go_wp2_with fail
  refine (LR_ C S P w1 hp _ G2.out _ _ _ _ _ _ _ _ _ Fa.out (RA.out.below G2.out) R2.out).mono ?_
  rintro e w3 ⟨E3, k3, c3, rfl, hr3, hB3, hN3⟩
  obtain rfl : k3 = 0 := hr3.hn
  have R3 := Lib.hid hr3
  have G3 := Lib.hid hB3
  have N3 := Lib.hid hN3
  clear hr3 hB3 hN3 f0 f1 f2
  obtain ⟨f0, f1, f2⟩ := CF.out _ G3.out
  go_wp2_with fail
  refine (LR_ C S P w1 hp _ G3.out _ _ _ _ _ _ _ _ _ Fb.out (RB.out.below G3.out) (R2.out.below N3.out)).mono ?_
  rintro e w4 ⟨E4, k4, c4, rfl, hr4, hB4, hN4⟩
  obtain rfl : k4 = 0 := hr4.hn
  have R4 := Lib.hid hr4
  have G4 := Lib.hid hB4
  have N4 := Lib.hid hN4
  clear hr4 hB4 hN4 f0 f1 f2
  clear hcell hjg1 hjg2 hgz
  go_wp2_with fail
  refine (LX_ w1 _ G4.out).mono ?_
  rintro e w5 ⟨rfl, hB5, hN5⟩
  have G5 := Lib.hid hB5
  have N5 := Lib.hid hN5
  clear hB5 hN5
  go_wp2_with fail
  go_ret
  exact ⟨rfl, bwStep HB1.out G5.out⟩
set_option maxRecDepth 100000 in
set_option maxHeartbeats 8000000 in
theorem w011 (C S P : Nat) (a b d g x1 x2 x3 h : List Nat) (A : Option Addr) (n ca : Nat) (B : Option Addr) (m cb : Nat) (D : Option Addr) (k cd : Nat) (w : World) (hp : (P : Int) ≤ 9223372036854775807) (hq : (⟨A, n, ca, zl a⟩ : Sl).R w) (hr : (⟨B, m, cb, zl b⟩ : Sl).R w) (ht : (⟨D, k, cd, zl d⟩ : Sl).R w)
    (hV : (lvB C S P 40 (zl a) && (lvB C S P 40 (zl b) && lvB C S P 40 (zl d))) = true) (hm4 : m ≤ 40) (hn4 : n ≤ 40) (hk4 : k ≤ 40)
    (hm0 : 1 ≤ m) (hn0 : n = 0) (hk0 : 1 ≤ k)
    (Fg : Hid (gcdRes C S P (zl a) (zl b) = (zl g, 0))) (Hg1 : Hid (1 ≤ g.length)) (Hg2 : Hid (g.length ≤ 40)) (Hg3 : Hid (g.getD (g.length - 1) 0 = 1)) (Fa : Hid ((divRes C S P (zl a) (zl g)).2.1 = [])) (Fb : Hid ((divRes C S P (zl b) (zl g)).2.1 = [])) (Fab : Hid ((divRes C S P (zl a) (zl b)).2.1 = zl x3)) (Fg2 : Hid (gcdRes C S P (zl b) (zl x3) = (zl g, 0))) (M1 : Hid (mulRes C S P (zl a) (zl d) = (zl x1, 0))) (M2 : Hid (mulRes C S P (zl b) (zl d) = (zl x2, 0))) (Fh : Hid (gcdRes C S P (zl x1) (zl x2) = (zl h, 0))) (Fhd : Hid ((divRes C S P (zl h) (zl d)).2.1 = [])) (Fhg : Hid ((divRes C S P (zl h) (zl g)).2.1 = [])) (Hh : Hid (h.length = g.length + d.length - 1)) :
    Calls Try.prog 7 #[fldv C S P, .slice A n ca, .slice B m cb, .slice D k cd] w fun e w' => e = .returned (.bool true) ∧ Below w.heap.size w w' := by
  have hmz : ((m : Int) == 0) = false := by rw [beq_eq_false_iff_ne]; omega
  subst hn0
  have hkz : ((k : Int) == 0) = false := by rw [beq_eq_false_iff_ne]; omega
  have hbx : Below w.heap.size w (w.alloc (fldB C S P)) := (Below.refl _ _).alloc (Nat.le_refl _) _
  have HQ := Lib.hid (hq.below hbx)
  have HR := Lib.hid (hr.below hbx)
  have HU := Lib.hid (ht.below hbx)
  have HKX : Hid (k = d.length) := ht.hn.trans (zl_length d)
  have CB : Hid (CellsAt (w.alloc (fldB C S P)) w.heap.size (fldC C S P)) := CellsAt.new _ _ _ _ rfl
  have HV := Lib.hid hV
  clear hV hq hr ht hbx
  go_enter Try.func7, Try.ntmps7
  go_wp2_with fail
  refine (lvalid3 C S P 40 40 rfl A B D 0 ca m cb k cd (zl a) (zl b) (zl d) (w.heap.size + 1) _ 24 (by omega) hp (by simp) HQ.out HR.out HU.out).mono ?_
  rintro e w1 ⟨rfl, hb1⟩
  rw [HV.out]
  have hbz := bwStep (bwA (w.alloc (fldB C S P)) (.cells #[.slice A 0 ca, .slice B m cb, .slice D k cd] 24)) hb1
  have HB1 : Hid (Below w.heap.size w w1) := bw1 hbz
  have HX1 : Hid (CellsAt w1 w.heap.size (fldC C S P)) := CB.out.below hbz
  have RA := Lib.hid (HQ.out.below hbz)
  have RB := Lib.hid (HR.out.below hbz)
  have RD_ := Lib.hid (HU.out.below hbz)
  have CF : Hid (∀ W, Abv w1 W → (W.cell? ⟨w.heap.size, 0, none⟩ = some (.int .i64 C) ∧ W.cell? ⟨w.heap.size, 1, none⟩ = some (.int .i64 S) ∧ W.cell? ⟨w.heap.size, 2, none⟩ = some (.int .i64 P))) := fun W hW => fldC_cells (HX1.out.below hW)
  clear hb1 hbz HQ HR HU CB HX1
  have G1 : Hid (Abv w1 w1) := Below.refl _ _
  obtain ⟨f0, f1, f2⟩ := CF.out _ G1.out
  go_wp2_with fail
  refine (LC_ C S P w1 hp _ G1.out _ _ _ _ _ _ _ _ _ _ Fg.out (RA.out.below G1.out) (RB.out.below G1.out)).mono ?_
  rintro e w2 ⟨E2, k2, c2, rfl, hr2, hB2, hN2⟩
  have R2 := Lib.hid hr2
  have G2 := Lib.hid hB2
  have N2 := Lib.hid hN2
  clear hr2 hB2 hN2 f0 f1 f2
  have hkg : k2 = g.length := R2.out.hn.trans (zl_length g)
  have hg1 : 1 ≤ k2 := by have := Hg1.out; omega
  have hg4 : k2 ≤ 40 := by have := Hg2.out; omega
  have HKG := Lib.hid hkg
  have hgz : ((k2 : Int) == 0) = false := by rw [beq_eq_false_iff_ne]; omega
  obtain ⟨ad, rfl, hadw, hcell⟩ := Sl.R.cell R2.out hg1
  rw [Hg3.out] at hcell
  obtain ⟨jg, hjg⟩ : ∃ jg, jg = k2 - 1 := ⟨_, rfl⟩
  rw [← hjg] at hcell
  have hjg1 : (k2 : Int) - 1 = (jg : Int) := by omega
  have hjg2 : jg < k2 := by omega
  clear hkg hjg
  obtain ⟨f0, f1, f2⟩ := CF.out _ G2.out
  go_wp2_with fail
  refine (LR_ C S P w1 hp _ G2.out _ _ _ _ _ _ _ _ _ Fa.out (RA.out.below G2.out) R2.out).mono ?_
  rintro e w3 ⟨E3, k3, c3, rfl, hr3, hB3, hN3⟩
  obtain rfl : k3 = 0 := hr3.hn
  have R3 := Lib.hid hr3
  have G3 := Lib.hid hB3
  have N3 := Lib.hid hN3
  clear hr3 hB3 hN3 f0 f1 f2
  obtain ⟨f0, f1, f2⟩ := CF.out _ G3.out
  go_wp2_with fail
  refine (LR_ C S P w1 hp _ G3.out _ _ _ _ _ _ _ _ _ Fb.out (RB.out.below G3.out) (R2.out.below N3.out)).mono ?_
  rintro e w4 ⟨E4, k4, c4, rfl, hr4, hB4, hN4⟩
  obtain rfl : k4 = 0 := hr4.hn
  have R4 := Lib.hid hr4
  have G4 := Lib.hid hB4
  have N4 := Lib.hid hN4
  clear hr4 hB4 hN4 f0 f1 f2
  clear hcell hjg1 hjg2 hgz
  go_wp2_with fail
  have G5 : Hid (Abv w1 w4.drew) := bwDrew G4.out
  have N5 : Hid (Below w4.heap.size w4 w4.drew) := bwDrew (Below.refl _ _)
  refine wp_region_W (S := Abv w1) [(false, 0), (false, 1), (false, 2), (false, 3), (false, 4), (true, 5), (true, 6), (false, 7), (false, 8), (false, 9), (false, 10), (false, 11)] (by kernel_rfl) (by kernel_rfl) G5.out ?_
  simp only [attachW, List.getElem?_cons_zero, List.getElem?_cons_succ]
  repeat
    first
    | refine' wpHX_val rfl (fun W hW => ?_) ?_
    | refine' wpHX_gval rfl (fun W hW => ?_) ?_
    rotate_left
    · have hcf := CF.out W hW; go_simp; rfl
    simp only [Act.put, List.setIfInBounds_toArray, List.set_cons_zero, List.set_cons_succ]
  refine' wpHX_acall rfl (fun W => ?_) ?_
  rotate_left 2
  · go_simp; exact ⟨rfl, rfl⟩
  refine (LR_ C S P w1 hp _ G5.out _ _ _ _ _ _ _ _ _ Fab.out (RA.out.below G5.out) (RB.out.below G5.out)).mono ?_
  rintro e w6 ⟨E6, k6, c6, rfl, hr6, hB6, hN6⟩
  have R6 := Lib.hid hr6
  have G6 := Lib.hid hB6
  have N6 := Lib.hid hN6
  clear hr6 hB6 hN6
  refine ⟨_, rfl, G6.out, ?_⟩
  simp only [Act.put, List.setIfInBounds_toArray, List.set_cons_zero, List.set_cons_succ]
  repeat
    first
    | refine' wpHX_val rfl (fun W hW => ?_) ?_
    | refine' wpHX_gval rfl (fun W hW => ?_) ?_
    rotate_left
    · have hcf := CF.out W hW; go_simp; rfl
    simp only [Act.put, List.setIfInBounds_toArray, List.set_cons_zero, List.set_cons_succ]
  refine' wpHX_acall rfl (fun W => ?_) ?_
  rotate_left 2
  · go_simp; exact ⟨rfl, rfl⟩
  refine (LC_ C S P w1 hp _ G6.out _ _ _ _ _ _ _ _ _ _ Fg2.out (RB.out.below G6.out) R6.out).mono ?_
  rintro e w7 ⟨E7, k7, c7, rfl, hr7, hB7, hN7⟩
  have R7 := Lib.hid hr7
  have G7 := Lib.hid hB7
  have N7 := Lib.hid hN7
  clear hr7 hB7 hN7
  refine ⟨_, rfl, G7.out, ?_⟩
  simp only [Act.put, List.setIfInBounds_toArray, List.set_cons_zero, List.set_cons_succ]
  repeat
    first
    | refine' wpHX_val rfl (fun W hW => ?_) ?_
    | refine' wpHX_gval rfl (fun W hW => ?_) ?_
    rotate_left
    · have hcf := CF.out W hW; go_simp; rfl
    simp only [Act.put, List.setIfInBounds_toArray, List.set_cons_zero, List.set_cons_succ]
  refine wpHX_nil ?_
  go_wp2_with fail
  refine (LS_ w1 _ G7.out _ _ _ _ _ _ _ R7.out (((((R2.out.below N3.out).below N4.out).below N5.out).below N6.out).below N7.out)).mono ?_
  rintro e w8 ⟨rfl, hB8, hN8⟩
  have G8 := Lib.hid hB8
  have N8 := Lib.hid hN8
  clear hB8 hN8
  go_wp2_with fail
  have G9 : Hid (Abv w1 w8.drew) := bwDrew G8.out
  have N9 : Hid (Below w8.heap.size w8 w8.drew) := bwDrew (Below.refl _ _)
  refine wp_region_W (S := Abv w1) [(false, 0), (false, 1), (false, 2), (false, 3), (false, 5), (false, 6), (false, 7), (true, 4), (true, 8), (true, 9), (false, 10), (false, 11), (false, 12), (false, 13), (false, 14)] (by kernel_rfl) (by kernel_rfl) G9.out ?_
  simp only [attachW, List.getElem?_cons_zero, List.getElem?_cons_succ]
  repeat
    first
    | refine' wpHX_val rfl (fun W hW => ?_) ?_
    | refine' wpHX_gval rfl (fun W hW => ?_) ?_
    rotate_left
    · have hcf := CF.out W hW; go_simp; rfl
    simp only [Act.put, List.setIfInBounds_toArray, List.set_cons_zero, List.set_cons_succ]
  refine' wpHX_acall rfl (fun W => ?_) ?_
  rotate_left 2
  · go_simp; exact ⟨rfl, rfl⟩
  refine (LM_ C S P w1 hp _ G9.out _ _ _ _ _ _ _ _ _ _ M1.out (RA.out.below G9.out) (RD_.out.below G9.out)).mono ?_
  rintro e w10 ⟨E10, k10, c10, rfl, hr10, hB10, hN10⟩
  have R10 := Lib.hid hr10
  have G10 := Lib.hid hB10
  have N10 := Lib.hid hN10
  clear hr10 hB10 hN10
  refine ⟨_, rfl, G10.out, ?_⟩
  simp only [Act.put, List.setIfInBounds_toArray, List.set_cons_zero, List.set_cons_succ]
  repeat
    first
    | refine' wpHX_val rfl (fun W hW => ?_) ?_
    | refine' wpHX_gval rfl (fun W hW => ?_) ?_
    rotate_left
    · have hcf := CF.out W hW; go_simp; rfl
    simp only [Act.put, List.setIfInBounds_toArray, List.set_cons_zero, List.set_cons_succ]
  refine' wpHX_acall rfl (fun W => ?_) ?_
  rotate_left 2
  · go_simp; exact ⟨rfl, rfl⟩
  refine (LM_ C S P w1 hp _ G10.out _ _ _ _ _ _ _ _ _ _ M2.out (RB.out.below G10.out) (RD_.out.below G10.out)).mono ?_
  rintro e w11 ⟨E11, k11, c11, rfl, hr11, hB11, hN11⟩
  have R11 := Lib.hid hr11
  have G11 := Lib.hid hB11
  have N11 := Lib.hid hN11
  clear hr11 hB11 hN11
  refine ⟨_, rfl, G11.out, ?_⟩
  simp only [Act.put, List.setIfInBounds_toArray, List.set_cons_zero, List.set_cons_succ]
  repeat
    first
    | refine' wpHX_val rfl (fun W hW => ?_) ?_
    | refine' wpHX_gval rfl (fun W hW => ?_) ?_
    rotate_left
    · have hcf := CF.out W hW; go_simp; rfl
    simp only [Act.put, List.setIfInBounds_toArray, List.set_cons_zero, List.set_cons_succ]
  refine' wpHX_acall rfl (fun W => ?_) ?_
  rotate_left 2
  · go_simp; exact ⟨rfl, rfl⟩
  refine (LC_ C S P w1 hp _ G11.out _ _ _ _ _ _ _ _ _ _ Fh.out (R10.out.below N11.out) R11.out).mono ?_
  rintro e w12 ⟨E12, k12, c12, rfl, hr12, hB12, hN12⟩
  have R12 := Lib.hid hr12
  have G12 := Lib.hid hB12
  have N12 := Lib.hid hN12
  clear hr12 hB12 hN12
  refine ⟨_, rfl, G12.out, ?_⟩
  simp only [Act.put, List.setIfInBounds_toArray, List.set_cons_zero, List.set_cons_succ]
  repeat
    first
    | refine' wpHX_val rfl (fun W hW => ?_) ?_
    | refine' wpHX_gval rfl (fun W hW => ?_) ?_
    rotate_left
    · have hcf := CF.out W hW; go_simp; rfl
    simp only [Act.put, List.setIfInBounds_toArray, List.set_cons_zero, List.set_cons_succ]
  refine wpHX_nil ?_
  have hsum : (k2 : Int) + (k : Int) - 1 = (k12 : Int) := by have h1 := HKG.out; have h2 := HKX.out; have h3 : k12 = h.length := R12.out.hn.trans (zl_length h); have h4 := Hh.out; have h5 := Hg1.out; omega
  obtain ⟨f0, f1, f2⟩ := CF.out _ G12.out
  go_wp2_with fail
  refine (LR_ C S P w1 hp _ G12.out _ _ _ _ _ _ _ _ _ Fhd.out R12.out (RD_.out.below G12.out)).mono ?_
  rintro e w13 ⟨E13, k13, c13, rfl, hr13, hB13, hN13⟩
  obtain rfl : k13 = 0 := hr13.hn
  have R13 := Lib.hid hr13
  have G13 := Lib.hid hB13
  have N13 := Lib.hid hN13
  clear hr13 hB13 hN13 f0 f1 f2
  obtain ⟨f0, f1, f2⟩ := CF.out _ G13.out
  go_wp2_with fail
  refine (LR_ C S P w1 hp _ G13.out _ _ _ _ _ _ _ _ _ Fhg.out (R12.out.below N13.out) (((((((((((R2.out.below N3.out).below N4.out).below N5.out).below N6.out).below N7.out).below N8.out).below N9.out).below N10.out).below N11.out).below N12.out).below N13.out)).mono ?_
  rintro e w14 ⟨E14, k14, c14, rfl, hr14, hB14, hN14⟩
  obtain rfl : k14 = 0 := hr14.hn
  have R14 := Lib.hid hr14
  have G14 := Lib.hid hB14
  have N14 := Lib.hid hN14
  clear hr14 hB14 hN14 f0 f1 f2
  go_wp2_with fail
  refine (LX_ w1 _ G14.out).mono ?_
  rintro e w15 ⟨rfl, hB15, hN15⟩
  have G15 := Lib.hid hB15
  have N15 := Lib.hid hN15
  clear hB15 hN15
  go_wp2_with fail
  go_ret
  exact ⟨rfl, bwStep HB1.out G15.out⟩
set_option maxRecDepth 100000 in
set_option maxHeartbeats 8000000 in
theorem w010 (C S P : Nat) (a b d g x1 x2 x3 h : List Nat) (A : Option Addr) (n ca : Nat) (B : Option Addr) (m cb : Nat) (D : Option Addr) (k cd : Nat) (w : World) (hp : (P : Int) ≤ 9223372036854775807) (hq : (⟨A, n, ca, zl a⟩ : Sl).R w) (hr : (⟨B, m, cb, zl b⟩ : Sl).R w) (ht : (⟨D, k, cd, zl d⟩ : Sl).R w)
    (hV : (lvB C S P 40 (zl a) && (lvB C S P 40 (zl b) && lvB C S P 40 (zl d))) = true) (hm4 : m ≤ 40) (hn4 : n ≤ 40) (hk4 : k ≤ 40)
    (hm0 : 1 ≤ m) (hn0 : n = 0) (hk0 : k = 0)
    (Fg : Hid (gcdRes C S P (zl a) (zl b) = (zl g, 0))) (Hg1 : Hid (1 ≤ g.length)) (Hg2 : Hid (g.length ≤ 40)) (Hg3 : Hid (g.getD (g.length - 1) 0 = 1)) (Fa : Hid ((divRes C S P (zl a) (zl g)).2.1 = [])) (Fb : Hid ((divRes C S P (zl b) (zl g)).2.1 = [])) (Fab : Hid ((divRes C S P (zl a) (zl b)).2.1 = zl x3)) (Fg2 : Hid (gcdRes C S P (zl b) (zl x3) = (zl g, 0))) :
    Calls Try.prog 7 #[fldv C S P, .slice A n ca, .slice B m cb, .slice D k cd] w fun e w' => e = .returned (.bool true) ∧ Below w.heap.size w w' := by
  have hmz : ((m : Int) == 0) = false := by rw [beq_eq_false_iff_ne]; omega
  subst hn0
  subst hk0
  have hbx : Below w.heap.size w (w.alloc (fldB C S P)) := (Below.refl _ _).alloc (Nat.le_refl _) _
  have HQ := Lib.hid (hq.below hbx)
  have HR := Lib.hid (hr.below hbx)
  have HU := Lib.hid (ht.below hbx)
  have CB : Hid (CellsAt (w.alloc (fldB C S P)) w.heap.size (fldC C S P)) := CellsAt.new _ _ _ _ rfl
  have HV := Lib.hid hV
  clear hV hq hr ht hbx
  go_enter Try.func7, Try.ntmps7
  go_wp2_with fail
  refine (lvalid3 C S P 40 40 rfl A B D 0 ca m cb 0 cd (zl a) (zl b) (zl d) (w.heap.size + 1) _ 24 (by omega) hp (by simp) HQ.out HR.out HU.out).mono ?_
  rintro e w1 ⟨rfl, hb1⟩
  rw [HV.out]
  have hbz := bwStep (bwA (w.alloc (fldB C S P)) (.cells #[.slice A 0 ca, .slice B m cb, .slice D 0 cd] 24)) hb1
  have HB1 : Hid (Below w.heap.size w w1) := bw1 hbz
  have HX1 : Hid (CellsAt w1 w.heap.size (fldC C S P)) := CB.out.below hbz
  have RA := Lib.hid (HQ.out.below hbz)
  have RB := Lib.hid (HR.out.below hbz)
  have RD_ := Lib.hid (HU.out.below hbz)
  have CF : Hid (∀ W, Abv w1 W → (W.cell? ⟨w.heap.size, 0, none⟩ = some (.int .i64 C) ∧ W.cell? ⟨w.heap.size, 1, none⟩ = some (.int .i64 S) ∧ W.cell? ⟨w.heap.size, 2, none⟩ = some (.int .i64 P))) := fun W hW => fldC_cells (HX1.out.below hW)
  clear hb1 hbz HQ HR HU CB HX1
  have G1 : Hid (Abv w1 w1) := Below.refl _ _
  obtain ⟨f0, f1, f2⟩ := CF.out _ G1.out
  go_wp2_with fail
  refine (LC_ C S P w1 hp _ G1.out _ _ _ _ _ _ _ _ _ _ Fg.out (RA.out.below G1.out) (RB.out.below G1.out)).mono ?_
  rintro e w2 ⟨E2, k2, c2, rfl, hr2, hB2, hN2⟩
  have R2 := Lib.hid hr2
  have G2 := Lib.hid hB2
  have N2 := Lib.hid hN2
  clear hr2 hB2 hN2 f0 f1 f2
  have hkg : k2 = g.length := R2.out.hn.trans (zl_length g)
  have hg1 : 1 ≤ k2 := by have := Hg1.out; omega
  have hg4 : k2 ≤ 40 := by have := Hg2.out; omega
  have HKG := Lib.hid hkg
  have hgz : ((k2 : Int) == 0) = false := by rw [beq_eq_false_iff_ne]; omega
  obtain ⟨ad, rfl, hadw, hcell⟩ := Sl.R.cell R2.out hg1
  rw [Hg3.out] at hcell
  obtain ⟨jg, hjg⟩ : ∃ jg, jg = k2 - 1 := ⟨_, rfl⟩
  rw [← hjg] at hcell
  have hjg1 : (k2 : Int) - 1 = (jg : Int) := by omega
  have hjg2 : jg < k2 := by omega
  clear hkg hjg
  obtain ⟨f0, f1, f2⟩ := CF.out _ G2.out
  go_wp2_with fail
  refine (LR_ C S P w1 hp _ G2.out _ _ _ _ _ _ _ _ _ Fa.out (RA.out.below G2.out) R2.out).mono ?_
  rintro e w3 ⟨E3, k3, c3, rfl, hr3, hB3, hN3⟩
  obtain rfl : k3 = 0 := hr3.hn
  have R3 := Lib.hid hr3
  have G3 := Lib.hid hB3
  have N3 := Lib.hid hN3
  clear hr3 hB3 hN3 f0 f1 f2
  obtain ⟨f0, f1, f2⟩ := CF.out _ G3.out
  go_wp2_with fail
  refine (LR_ C S P w1 hp _ G3.out _ _ _ _ _ _ _ _ _ Fb.out (RB.out.below G3.out) (R2.out.below N3.out)).mono ?_
  rintro e w4 ⟨E4, k4, c4, rfl, hr4, hB4, hN4⟩
  obtain rfl : k4 = 0 := hr4.hn
  have R4 := Lib.hid hr4
  have G4 := Lib.hid hB4
  have N4 := Lib.hid hN4
  clear hr4 hB4 hN4 f0 f1 f2
  clear hcell hjg1 hjg2 hgz
  go_wp2_with fail
  have G5 : Hid (Abv w1 w4.drew) := bwDrew G4.out
  have N5 : Hid (Below w4.heap.size w4 w4.drew) := bwDrew (Below.refl _ _)
  refine wp_region_W (S := Abv w1) [(false, 0), (false, 1), (false, 2), (false, 3), (false, 4), (true, 5), (true, 6), (false, 7), (false, 8), (false, 9), (false, 10), (false, 11)] (by kernel_rfl) (by kernel_rfl) G5.out ?_
  simp only [attachW, List.getElem?_cons_zero, List.getElem?_cons_succ]
  repeat
    first
    | refine' wpHX_val rfl (fun W hW => ?_) ?_
    | refine' wpHX_gval rfl (fun W hW => ?_) ?_
    rotate_left
    · have hcf := CF.out W hW; go_simp; rfl
    simp only [Act.put, List.setIfInBounds_toArray, List.set_cons_zero, List.set_cons_succ]
  refine' wpHX_acall rfl (fun W => ?_) ?_
  rotate_left 2
  · go_simp; exact ⟨rfl, rfl⟩
  refine (LR_ C S P w1 hp _ G5.out _ _ _ _ _ _ _ _ _ Fab.out (RA.out.below G5.out) (RB.out.below G5.out)).mono ?_
  rintro e w6 ⟨E6, k6, c6, rfl, hr6, hB6, hN6⟩
  have R6 := Lib.hid hr6
  have G6 := Lib.hid hB6
  have N6 := Lib.hid hN6
  clear hr6 hB6 hN6
  refine ⟨_, rfl, G6.out, ?_⟩
  simp only [Act.put, List.setIfInBounds_toArray, List.set_cons_zero, List.set_cons_succ]
  repeat
    first
    | refine' wpHX_val rfl (fun W hW => ?_) ?_
    | refine' wpHX_gval rfl (fun W hW => ?_) ?_
    rotate_left
    · have hcf := CF.out W hW; go_simp; rfl
    simp only [Act.put, List.setIfInBounds_toArray, List.set_cons_zero, List.set_cons_succ]
  refine' wpHX_acall rfl (fun W => ?_) ?_
  rotate_left 2
  · go_simp; exact ⟨rfl, rfl⟩
  refine (LC_ C S P w1 hp _ G6.out _ _ _ _ _ _ _ _ _ _ Fg2.out (RB.out.below G6.out) R6.out).mono ?_
  rintro e w7 ⟨E7, k7, c7, rfl, hr7, hB7, hN7⟩
  have R7 := Lib.hid hr7
  have G7 := Lib.hid hB7
  have N7 := Lib.hid hN7
  clear hr7 hB7 hN7
  refine ⟨_, rfl, G7.out, ?_⟩
  simp only [Act.put, List.setIfInBounds_toArray, List.set_cons_zero, List.set_cons_succ]
  repeat
    first
    | refine' wpHX_val rfl (fun W hW => ?_) ?_
    | refine' wpHX_gval rfl (fun W hW => ?_) ?_
    rotate_left
    · have hcf := CF.out W hW; go_simp; rfl
    simp only [Act.put, List.setIfInBounds_toArray, List.set_cons_zero, List.set_cons_succ]
  refine wpHX_nil ?_
  go_wp2_with fail
  refine (LS_ w1 _ G7.out _ _ _ _ _ _ _ R7.out (((((R2.out.below N3.out).below N4.out).below N5.out).below N6.out).below N7.out)).mono ?_
  rintro e w8 ⟨rfl, hB8, hN8⟩
  have G8 := Lib.hid hB8
  have N8 := Lib.hid hN8
  clear hB8 hN8
  go_wp2_with fail
  refine (LX_ w1 _ G8.out).mono ?_
  rintro e w9 ⟨rfl, hB9, hN9⟩
  have G9 := Lib.hid hB9
  have N9 := Lib.hid hN9
  clear hB9 hN9
  go_wp2_with fail
  go_ret
  exact ⟨rfl, bwStep HB1.out G9.out⟩
end Go.Proofs.Ythpcneeidhmdkaa.polynomialEuclid
