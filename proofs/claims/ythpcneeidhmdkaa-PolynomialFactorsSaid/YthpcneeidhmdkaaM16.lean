import Derived.Test.YthpcneeidhmdkaaM15
namespace Go.Proofs.Ythpcneeidhmdkaa
set_option linter.unusedVariables false
set_option linter.unusedSectionVars false
open Fl
/-! the ring of polynomials: the lists; short hands of the law for a walk -/
theorem lt_one {c s p : Nat} (h : VF c s p) : LtAll s [1] := fun i => by
  have := h.two_le
  match i with
  | 0 => show 1 < s; omega
  | i + 1 => show ([1] : List Nat).getD (i + 1) 0 < s; simp [List.getD]; omega
theorem trimmed_one : Trimmed [1] := .inr (by decide)
theorem lt_nil {c s p : Nat} (h : VF c s p) : LtAll s [] := fun i => by have := h.two_le; show ([] : List Nat).getD i 0 < s; simp [List.getD]; omega
section
variable {c s p : Nat} (h : VF c s p) {a b d : List Nat}
include h
theorem addL_comm (ha : LtAll s a) (hb : LtAll s b) : addL s p a b = addL s p b a :=
  co_ext h (addL_lt h ha hb) (addL_lt h hb ha) (addL_trimmed h _ _) (addL_trimmed h _ _) fun i => by
    rw [co_addL h ha hb, co_addL h hb ha, fadd_comm]
theorem addL_assoc (ha : LtAll s a) (hb : LtAll s b) (hd : LtAll s d) : addL s p (addL s p a b) d = addL s p a (addL s p b d) :=
  co_ext h (addL_lt h (addL_lt h ha hb) hd) (addL_lt h ha (addL_lt h hb hd)) (addL_trimmed h _ _) (addL_trimmed h _ _) fun i => by
    rw [co_addL h (addL_lt h ha hb) hd, co_addL h ha hb, co_addL h ha (addL_lt h hb hd), co_addL h hb hd, fadd_assoc]
theorem addL_nil (ha : LtAll s a) (ta : Trimmed a) : addL s p a [] = a :=
  co_ext h (addL_lt h ha (lt_nil h)) ha (addL_trimmed h _ _) ta fun i => by
    rw [co_addL h ha (lt_nil h), co_nil, fadd_zero]
theorem mulL_comm (ha : LtAll s a) (hb : LtAll s b) (ta : Trimmed a) (tb : Trimmed b) : mulL s p a b = mulL s p b a :=
  co_ext h (mulL_lt h _ _) (mulL_lt h _ _) (mulL_trimmed h ha hb ta tb) (mulL_trimmed h hb ha tb ta) fun i => by
    rw [co_mulL h ha hb, co_mulL h hb ha, conv_comm]
theorem mulL_assoc (ha : LtAll s a) (hb : LtAll s b) (hd : LtAll s d) (ta : Trimmed a) (tb : Trimmed b) (td : Trimmed d) : mulL s p (mulL s p a b) d = mulL s p a (mulL s p b d) :=
  co_ext h (mulL_lt h _ _) (mulL_lt h _ _) (mulL_trimmed h (mulL_lt h _ _) hd (mulL_trimmed h ha hb ta tb) td) (mulL_trimmed h ha (mulL_lt h _ _) ta (mulL_trimmed h hb hd tb td)) fun i => by
    rw [co_mulL h (mulL_lt h _ _) hd, co_mulL h ha (mulL_lt h _ _), conv_congr (fun k _ => co_mulL h ha hb k) (fun _ _ => rfl), conv_assoc]
    exact conv_congr (fun _ _ => rfl) (fun k _ => (co_mulL h hb hd k).symm)
theorem mulL_addL (ha : LtAll s a) (hb : LtAll s b) (hd : LtAll s d) (ta : Trimmed a) (tb : Trimmed b) (td : Trimmed d) : mulL s p a (addL s p b d) = addL s p (mulL s p a b) (mulL s p a d) :=
  co_ext h (mulL_lt h _ _) (addL_lt h (mulL_lt h _ _) (mulL_lt h _ _)) (mulL_trimmed h ha (addL_lt h hb hd) ta (addL_trimmed h _ _)) (addL_trimmed h _ _) fun i => by
    rw [co_mulL h ha (addL_lt h hb hd), co_addL h (mulL_lt h _ _) (mulL_lt h _ _), co_mulL h ha hb, co_mulL h ha hd, ← conv_add_right]
    exact conv_congr (fun _ _ => rfl) (fun k _ => co_addL h hb hd k)
theorem mulL_one (ha : LtAll s a) (ta : Trimmed a) : mulL s p a [1] = a :=
  co_ext h (mulL_lt h _ _) ha (mulL_trimmed h ha (lt_one h) ta trimmed_one) ta fun i => by
    rw [co_mulL h ha (lt_one h), conv_comm, conv_congr (a' := cst 1) (b' := co h a) (fun k _ => ?_) (fun _ _ => rfl), conv_cst, fone_mul]
    show mkK h (([1] : List Nat).getD k 0) = if k = 0 then 1 else 0
    match k with
    | 0 => exact mkK_one h
    | k + 1 => rw [if_neg (by omega)]; exact mkK_zero h
theorem vl_mulL (ha : LtAll s a) (hb : LtAll s b) (x : KF h) : vl h x (mulL s p a b) = vl h x a * vl h x b := by
  rw [vl_congr h (co_mulL h ha hb) (n := a.length + b.length) (fun n hn => (co_sup h a).conv (co_sup h b) n (by omega)), evs_conv (co_sup h a) (co_sup h b)]
  rfl
theorem horn_add (ha : LtAll s a) (hb : LtAll s b) {x : Nat} (hx : x < s) : hornN s p x (addL s p a b) = faddN s p (hornN s p x a) (hornN s p x b) := by
  have l1 := hornN_lt h x a (ltAll_mem ha)
  have l2 := hornN_lt h x b (ltAll_mem hb)
  refine mkK_inj h (hornN_lt h x _ (ltAll_mem (addL_lt h ha hb))) (fadd_lt h _ _ l1 l2) ?_
  rw [mkK_add h l1 l2, horn_vl h hx (addL_lt h ha hb), horn_vl h hx ha, horn_vl h hx hb, vl_addL h ha hb]
theorem horn_mul (ha : LtAll s a) (hb : LtAll s b) {x : Nat} (hx : x < s) : hornN s p x (mulL s p a b) = fmulN s p (hornN s p x a) (hornN s p x b) := by
  have l1 := hornN_lt h x a (ltAll_mem ha)
  have l2 := hornN_lt h x b (ltAll_mem hb)
  refine mkK_inj h (hornN_lt h x _ (ltAll_mem (mulL_lt h _ _))) (fmul_lt h _ _) ?_
  rw [mkK_mul h l1 l2, horn_vl h hx (mulL_lt h _ _), horn_vl h hx ha, horn_vl h hx hb, vl_mulL h ha hb]
end
open Go.RowKit
theorem evalRes_ok {C S P : Nat} (hv : VF C S P) {a : List Nat} (ha : LtAll S a) (ta : Trimmed a) (na : a.length ≤ 4097) {x : Nat} (hx : x < S) : evalRes C S P (zl a) x = (((hornN S P x a : Nat) : Int), 0) := by
  unfold evalRes
  rw [show pvB C S P (zl a) = true from by unfold pvB; rw [vld_of hv, polB_zl ha na ta]; rfl, isB_of hx, nl_zl]; rfl
theorem gAdd_yes (C S P A B : Nat) (w : World) (hv : VF C S P) (ha : A < S) (hb : B < S) :
    Calls Try.prog 38 #[fldv C S P, .int .i64 A, .int .i64 B] w fun e w' => e = .returned (tup ((faddN S P A B : Nat), 0)) ∧ Below w.heap.size w w' := by
  by_cases h0 : P = 0
  · exact Add_y0 C S P A B w hv ha hb h0
  · exact Add_y1 C S P A B w hv ha hb h0
/-! the short hands from a world above w1 on -/
section
variable (C S P : Nat) (w1 : World) (hp : (P : Int) ≤ 9223372036854775807) (W : World) (hW : Abv w1 W)
include hp hW
theorem LD_ (E : Option Addr) (k ce : Nat) (l L : List Int) (o : Int) (h1 : derRes C S P l = (L, o)) (h2 : (⟨E, k, ce, l⟩ : Sl).R W) :
    Calls Try.prog 37 #[fldv C S P, .slice E k ce] W fun e W' => ∃ E' k' c', e = .returned (.slice E' k' c') ∧ (⟨E', k', c', L⟩ : Sl).R W' ∧ Abv w1 W' ∧ Below W.heap.size W W' := by
  refine (lderive_any C S P ⟨E, k, ce, l⟩ W hp h2).mono ?_
  rintro e W' ⟨v, rfl, hi, hb⟩
  simp only [h1] at hi
  obtain ⟨E', k', c', rfl, hr⟩ := hi.parts
  exact ⟨E', k', c', rfl, hr, bwStep hW hb, hb⟩
theorem LA_ (E : Option Addr) (k ce : Nat) (l : List Int) (G : Option Addr) (g cg : Nat) (l' L : List Int) (o : Int) (h1 : addRes C S P l l' = (L, o)) (h2 : (⟨E, k, ce, l⟩ : Sl).R W) (h3 : (⟨G, g, cg, l'⟩ : Sl).R W) :
    Calls Try.prog 36 #[fldv C S P, .slice E k ce, .slice G g cg] W fun e W' => ∃ E' k' c', e = .returned (.slice E' k' c') ∧ (⟨E', k', c', L⟩ : Sl).R W' ∧ Abv w1 W' ∧ Below W.heap.size W W' := by
  refine (ladd_any C S P ⟨E, k, ce, l⟩ ⟨G, g, cg, l'⟩ W hp h2 h3).mono ?_
  rintro e W' ⟨v, rfl, hi, hb⟩
  simp only [h1] at hi
  obtain ⟨E', k', c', rfl, hr⟩ := hi.parts
  exact ⟨E', k', c', rfl, hr, bwStep hW hb, hb⟩
theorem LM_ (E : Option Addr) (k ce : Nat) (l : List Int) (G : Option Addr) (g cg : Nat) (l' L : List Int) (o : Int) (h1 : mulRes C S P l l' = (L, o)) (h2 : (⟨E, k, ce, l⟩ : Sl).R W) (h3 : (⟨G, g, cg, l'⟩ : Sl).R W) :
    Calls Try.prog 27 #[fldv C S P, .slice E k ce, .slice G g cg] W fun e W' => ∃ E' k' c', e = .returned (.slice E' k' c') ∧ (⟨E', k', c', L⟩ : Sl).R W' ∧ Abv w1 W' ∧ Below W.heap.size W W' := by
  refine (lmul_any C S P ⟨E, k, ce, l⟩ ⟨G, g, cg, l'⟩ W hp h2 h3).mono ?_
  rintro e W' ⟨v, rfl, hi, hb⟩
  simp only [h1] at hi
  obtain ⟨E', k', c', rfl, hr⟩ := hi.parts
  exact ⟨E', k', c', rfl, hr, bwStep hW hb, hb⟩
theorem LE_ (E : Option Addr) (k ce : Nat) (l : List Int) (x : Nat) (L : Nat) (h1 : evalRes C S P l x = ((L : Int), 0)) (h2 : (⟨E, k, ce, l⟩ : Sl).R W) :
    Calls Try.prog 21 #[fldv C S P, .slice E k ce, .int .i64 x] W fun e W' => e = .returned (.tuple #[.int .i64 (L : Int), .int .i64 0]) ∧ Abv w1 W' ∧ Below W.heap.size W W' := by
  refine (pEval_any C S P x ⟨E, k, ce, l⟩ W hp h2).mono ?_
  rintro e W' ⟨rfl, hb⟩
  exact ⟨by simp only [h1], bwStep hW hb, hb⟩
omit hp in
theorem LG_ (A B L : Nat) (hv : VF C S P) (ha : A < S) (hb : B < S) (h : faddN S P A B = L) :
    Calls Try.prog 38 #[fldv C S P, .int .i64 A, .int .i64 B] W fun e W' => e = .returned (.tuple #[.int .i64 (L : Int), .int .i64 0]) ∧ Abv w1 W' ∧ Below W.heap.size W W' := by
  subst h
  exact (gAdd_yes C S P A B W hv ha hb).mono fun e W' ⟨h1, h2⟩ => ⟨h1, bwStep hW h2, h2⟩
omit hp in
theorem LH_ (A B L : Nat) (hv : VF C S P) (ha : A < S) (hb : B < S) (h : fmulN S P A B = L) :
    Calls Try.prog 39 #[fldv C S P, .int .i64 A, .int .i64 B] W fun e W' => e = .returned (.tuple #[.int .i64 (L : Int), .int .i64 0]) ∧ Abv w1 W' ∧ Below W.heap.size W W' := by
  subst h
  exact (Mul_yes C S P A B W hv ha hb).mono fun e W' ⟨h1, h2⟩ => ⟨h1, bwStep hW h2, h2⟩
omit hp in
theorem LS_ (E : Option Addr) (k ce : Nat) (G : Option Addr) (g cg : Nat) (l : List Int) (h2 : (⟨E, k, ce, l⟩ : Sl).R W) (h3 : (⟨G, g, cg, l⟩ : Sl).R W) :
    Calls Try.prog 17 #[.slice E k ce, .slice G g cg] W fun e W' => e = .returned (.bool true) ∧ Abv w1 W' ∧ Below W.heap.size W W' := by
  refine (same_v l l (.slice E k ce) (.slice G g cg) W h2.ints h3.ints).mono ?_
  rintro e W' ⟨rfl, hb⟩
  rw [show decide (l = l) = true from by simp]
  exact ⟨rfl, bwStep hW hb, hb⟩
omit hp in
theorem LX_ : Calls Try.prog 14 #[] W fun e W' => e = .returned (.bool true) ∧ Abv w1 W' ∧ Below W.heap.size W W' := by
  refine (examples_any W).mono ?_
  rintro e W' ⟨rfl, hb⟩
  exact ⟨rfl, bwStep hW hb, hb⟩
end
end Go.Proofs.Ythpcneeidhmdkaa
