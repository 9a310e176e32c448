import Derived.Test.YthpcneeidhmdkaaM4
import Derived.Laws.OwnMore
import Derived.Deep.AppendLies
import Derived.Maps.AppendAt
import Derived.RegionTactic
import Derived.OwnWalk
import Derived.Deep.QuietTactic
import Derived.BigQuiet
import Derived.Deep.RegionHeld3
namespace Go.Proofs.Ythpcneeidhmdkaa
set_option linter.unusedVariables false
set_option linter.unusedSectionVars false
/-! the tables of powers and logarithms; polynomials as lists of numbers -/
noncomputable def expT (s p : Nat) : List Nat := (List.range (s - 1)).map (fpowN s p (genF s p))
/-- the table of logarithms as it is behind n rounds -/
noncomputable def logT (s p n : Nat) : List Nat := (List.range s).map fun x => if x = 0 then 0 else if logF s p x < n then logF s p x else 0
/-- the table of powers as it is behind n rounds -/
noncomputable def expTn (s p n : Nat) : List Nat := (List.range (s - 1)).map fun i => if i < n then fpowN s p (genF s p) i else 0
theorem getD_map_range (f : Nat → Nat) (n i : Nat) (hi : i < n) : ((List.range n).map f).getD i 0 = f i := by
  simp [List.getD, hi]
theorem set_map_range (f : Nat → Nat) (n i v : Nat) (hi : i < n) : ((List.range n).map f).set i v = (List.range n).map (fun k => if k = i then v else f k) := by
  apply List.ext_getElem
  · simp
  · intro k h1 h2
    simp only [List.getElem_set, List.getElem_map, List.getElem_range]
    by_cases h : i = k
    · subst h; simp
    · rw [if_neg h, if_neg (fun e => h e.symm)]
section
variable {c s p : Nat} (h : VF c s p)
include h
theorem gen_lt : genF s p < s := (genF_spec h).2.1
theorem gen_ne : genF s p ≠ 0 := by have := (genF_spec h).1; omega
theorem gen_pow_ne (n : Nat) : fpowN s p (genF s p) n ≠ 0 := by
  letI := fldOf h
  let a : El s := ⟨genF s p, gen_lt h⟩
  have : a ^ n ≠ 0 := fpow_ne ((el_ne_zero h a).2 (gen_ne h)) n
  intro e
  apply this
  apply El.ext
  rw [← fpowN_val h a n]
  exact e
theorem logF_gen {n : Nat} (hn : n < s - 1) : logF s p (fpowN s p (genF s p) n) = n :=
  logF_of h (powN_lt h n) (gen_pow_ne h n) hn rfl
theorem expTn_set {n : Nat} (hn : n < s - 1) : (expTn s p n).set n (fpowN s p (genF s p) n) = expTn s p (n + 1) := by
  unfold expTn
  rw [set_map_range _ _ _ _ hn]
  apply List.map_congr_left
  intro k hk
  by_cases e : k = n
  · subst e; simp
  · rw [if_neg e]
    by_cases h1 : k < n
    · rw [if_pos h1, if_pos (by omega)]
    · rw [if_neg h1, if_neg (by omega)]
theorem logT_set {n : Nat} (hn : n < s - 1) : (logT s p n).set (fpowN s p (genF s p) n) n = logT s p (n + 1) := by
  unfold logT
  rw [set_map_range _ _ _ _ (powN_lt h n)]
  apply List.map_congr_left
  intro k hk
  have hks : k < s := List.mem_range.1 hk
  by_cases e : k = fpowN s p (genF s p) n
  · rw [if_pos e, e, if_neg (gen_pow_ne h n), logF_gen h hn, if_pos (by omega)]
  · rw [if_neg e]
    by_cases h0 : k = 0
    · rw [if_pos h0, if_pos h0]
    · rw [if_neg h0, if_neg h0]
      have hl : logF s p k ≠ n := by
        intro e2
        apply e
        have := (logF_spec h hks h0).2
        rw [e2] at this; exact this.symm
      by_cases h1 : logF s p k < n
      · rw [if_pos h1, if_pos (by omega)]
      · rw [if_neg h1, if_neg (by omega)]
theorem expTn_zero : expTn s p 0 = List.replicate (s - 1) 0 := by
  unfold expTn
  apply List.ext_getElem <;> simp
theorem logT_zero : logT s p 0 = List.replicate s 0 := by
  unfold logT
  apply List.ext_getElem <;> simp
theorem expTn_last : expTn s p (s - 1) = expT s p := by
  unfold expTn expT
  apply List.map_congr_left
  intro k hk
  rw [if_pos (List.mem_range.1 hk)]
theorem expT_get {i : Nat} (hi : i < s - 1) : (expT s p).getD i 0 = fpowN s p (genF s p) i := getD_map_range _ _ _ hi
theorem logT_get {x : Nat} (hx : x < s) (h0 : x ≠ 0) : (logT s p (s - 1)).getD x 0 = logF s p x := by
  rw [show (logT s p (s - 1)).getD x 0 = _ from getD_map_range _ _ _ hx]
  rw [if_neg h0, if_pos (logF_spec h hx h0).1]
theorem tab_mul {x y : Nat} (hx : x < s) (hy : y < s) (hx0 : x ≠ 0) (hy0 : y ≠ 0) : fpowN s p (genF s p) ((logF s p x + logF s p y) % (s - 1)) = fmulN s p x y := by
  rw [← powN_mod h (gen_lt h) (powN_fermat h (gen_lt h) (gen_ne h)), powN_add h (gen_lt h), (logF_spec h hx hx0).2, (logF_spec h hy hy0).2]
theorem tab_div {x y : Nat} (hx : x < s) (hy : y < s) (hx0 : x ≠ 0) (hy0 : y ≠ 0) : fpowN s p (genF s p) ((logF s p x + (s - 1) - logF s p y) % (s - 1)) = fmulN s p x (finvN s p y) := by
  have hf := powN_fermat h (gen_lt h) (gen_ne h)
  have a := logF_spec h hx hx0
  have b := logF_spec h hy hy0
  rw [← powN_mod h (gen_lt h) hf]
  generalize hk : logF s p x + (s - 1) - logF s p y = k
  have e1 : fmulN s p (fpowN s p (genF s p) k) y = x := by
    have : fpowN s p (genF s p) (k + logF s p y) = fpowN s p (genF s p) (logF s p x + (s - 1)) := by congr 1; omega
    rw [powN_add h (gen_lt h), powN_add h (gen_lt h), a.2, b.2, hf, mul_oneN h _ hx] at this
    exact this
  have e2 : fmulN s p (fmulN s p (fpowN s p (genF s p) k) y) (finvN s p y) = fmulN s p x (finvN s p y) := by rw [e1]
  rw [mulN_assoc h (powN_lt h k) hy (invN_lt h), mulN_inv h hy hy0, mul_oneN h _ (powN_lt h k)] at e2
  exact e2
theorem mulN_ne {x y : Nat} (hx : x < s) (hy : y < s) (hx0 : x ≠ 0) (hy0 : y ≠ 0) : fmulN s p x y ≠ 0 := (logF_mul h hx hy hx0 hy0).2
theorem zero_addN {x : Nat} (hx : x < s) : faddN s p 0 x = x := by rw [addN_comm h (by have := h.two_le; omega) hx, addN_zero h hx]
theorem zero_mulN {x : Nat} (hx : x < s) : fmulN s p 0 x = 0 := by rw [mulN_comm h (by have := h.two_le; omega) hx, mulN_zero h hx]
end
/-! trimming -/
/-- the length without zeros at the end of the first n -/
def tl (l : List Nat) : Nat → Nat
  | 0 => 0
  | n + 1 => if l.getD n 0 = 0 then tl l n else n + 1
theorem tl_le (l : List Nat) (n : Nat) : tl l n ≤ n := by
  induction n with
  | zero => exact Nat.le_refl _
  | succ n ih => unfold tl; split <;> omega
theorem tl_zero (l : List Nat) (n i : Nat) (h1 : tl l n ≤ i) (h2 : i < n) : l.getD i 0 = 0 := by
  induction n with
  | zero => omega
  | succ n ih =>
    unfold tl at h1
    split at h1
    · rename_i h0
      by_cases e : i = n
      · rw [e]; exact h0
      · exact ih h1 (by omega)
    · omega
theorem tl_last (l : List Nat) (n : Nat) (h : tl l n ≠ 0) : l.getD (tl l n - 1) 0 ≠ 0 := by
  induction n with
  | zero => exact absurd rfl h
  | succ n ih =>
    unfold tl at h ⊢
    split
    · rename_i h0
      rw [if_pos h0] at h
      exact ih h
    · rename_i h0
      simpa using h0
def trimL (l : List Nat) : List Nat := l.take (tl l l.length)
/-- a list without zeros at its end -/
def Trimmed (l : List Nat) : Prop := l = [] ∨ l.getD (l.length - 1) 0 ≠ 0
theorem trimL_length (l : List Nat) : (trimL l).length = tl l l.length := by
  unfold trimL; rw [List.length_take]; have := tl_le l l.length; omega
theorem getD_take (l : List Nat) (n i : Nat) : (l.take n).getD i 0 = if i < n then l.getD i 0 else 0 := by
  simp only [List.getD, List.getElem?_take]
  split <;> simp
theorem trimL_getD (l : List Nat) (i : Nat) : (trimL l).getD i 0 = l.getD i 0 := by
  unfold trimL
  rw [getD_take]
  split
  · rfl
  · rename_i h1
    by_cases h2 : i < l.length
    · exact (tl_zero l _ i (by omega) h2).symm
    · rw [List.getD, List.getElem?_eq_none (by omega)]; rfl
theorem trimL_trimmed (l : List Nat) : Trimmed (trimL l) := by
  by_cases h : tl l l.length = 0
  · left; unfold trimL; rw [h]; rfl
  · right
    rw [trimL_getD, trimL_length]
    exact tl_last l _ h
theorem trimmed_ext {a b : List Nat} (ha : Trimmed a) (hb : Trimmed b) (h : ∀ i, a.getD i 0 = b.getD i 0) : a = b := by
  have key : ∀ {a b : List Nat}, Trimmed a → (∀ i, a.getD i 0 = b.getD i 0) → a.length ≤ b.length := by
    intro a b ha h
    rcases ha with rfl | ha
    · simp
    · rcases Nat.lt_or_ge b.length a.length with hl | hl
      · exfalso
        apply ha
        rw [h, List.getD, List.getElem?_eq_none (by omega)]; rfl
      · exact hl
  have hl : a.length = b.length := Nat.le_antisymm (key ha h) (key hb fun i => (h i).symm)
  apply List.ext_getElem hl
  intro i h1 h2
  have := h i
  simpa [List.getD, h1, h2] using this
theorem trimL_self {a : List Nat} (ha : Trimmed a) : trimL a = a := trimmed_ext (trimL_trimmed a) ha (trimL_getD a)
theorem trimL_congr {a b : List Nat} (h : ∀ i, a.getD i 0 = b.getD i 0) : trimL a = trimL b :=
  trimmed_ext (trimL_trimmed a) (trimL_trimmed b) fun i => by rw [trimL_getD, trimL_getD, h]
/-! sums and products -/
/-- the sum of the first n values -/
def csum (s p : Nat) (f : Nat → Nat) : Nat → Nat
  | 0 => 0
  | n + 1 => faddN s p (csum s p f n) (f n)
def cterm (s p : Nat) (a b : List Nat) (n k : Nat) : Nat := if k ≤ n then fmulN s p (a.getD k 0) (b.getD (n - k) 0) else 0
/-- coefficient n of the product behind i full rounds and j steps of the next -/
def cacc (s p : Nat) (a b : List Nat) (i j n : Nat) : Nat :=
  if i ≤ n ∧ n - i < j then faddN s p (csum s p (cterm s p a b n) i) (fmulN s p (a.getD i 0) (b.getD (n - i) 0)) else csum s p (cterm s p a b n) i
def accL (s p : Nat) (a b : List Nat) (i j : Nat) : List Nat := (List.range (a.length + b.length - 1)).map (cacc s p a b i j)
def mulL (s p : Nat) (a b : List Nat) : List Nat := if a = [] ∨ b = [] then [] else accL s p a b a.length 0
def addL (s p : Nat) (a b : List Nat) : List Nat := trimL ((List.range (max a.length b.length)).map fun i => faddN s p (a.getD i 0) (b.getD i 0))
def LtAll (s : Nat) (l : List Nat) : Prop := ∀ i, l.getD i 0 < s
section
variable {c s p : Nat} (h : VF c s p)
include h
theorem csum_lt (f : Nat → Nat) (hf : ∀ k, f k < s) (n : Nat) : csum s p f n < s := by
  induction n with
  | zero => have := h.two_le; unfold csum; omega
  | succ n ih => exact fadd_lt h _ _ ih (hf n)
theorem cterm_lt (a b : List Nat) (n k : Nat) : cterm s p a b n k < s := by
  unfold cterm
  split
  · exact fmul_lt h _ _
  · have := h.two_le; omega
theorem cacc_zero (a b : List Nat) (i n : Nat) : cacc s p a b i 0 n = csum s p (cterm s p a b n) i := by
  unfold cacc
  rw [if_neg (by omega)]
theorem accL_start (a b : List Nat) : accL s p a b 0 0 = List.replicate (a.length + b.length - 1) 0 := by
  unfold accL
  apply List.ext_getElem
  · simp
  · intro k h1 h2
    simp [cacc_zero h, csum]
theorem accL_step (a b : List Nat) {i j : Nat} (hi : i < a.length) (hj : j < b.length) :
    (accL s p a b i j).set (i + j) (faddN s p ((accL s p a b i j).getD (i + j) 0) (fmulN s p (a.getD i 0) (b.getD j 0))) = accL s p a b i (j + 1) := by
  unfold accL
  rw [getD_map_range _ _ _ (by omega), set_map_range _ _ _ _ (by omega)]
  apply List.map_congr_left
  intro k hk
  unfold cacc
  by_cases e : k = i + j
  · subst e
    rw [if_pos rfl, if_neg (by omega), if_pos (by omega), show i + j - i = j from by omega]
  · rw [if_neg e]
    by_cases h1 : i ≤ k ∧ k - i < j
    · rw [if_pos h1, if_pos (by omega)]
    · rw [if_neg h1, if_neg (by omega)]
theorem accL_next (a b : List Nat) (ha : LtAll s a) (hb : LtAll s b) (i : Nat) : accL s p a b i b.length = accL s p a b (i + 1) 0 := by
  unfold accL
  apply List.map_congr_left
  intro k hk
  rw [cacc_zero h]
  unfold cacc
  show _ = faddN s p (csum s p (cterm s p a b k) i) (cterm s p a b k i)
  have hc := csum_lt h (cterm s p a b k) (cterm_lt h a b k) i
  unfold cterm
  by_cases h1 : i ≤ k
  · by_cases h2 : k - i < b.length
    · rw [if_pos ⟨h1, h2⟩, if_pos h1]
    · rw [if_neg (by omega), if_pos h1]
      have : b.getD (k - i) 0 = 0 := by rw [List.getD, List.getElem?_eq_none (by omega)]; rfl
      rw [this, mulN_zero h (ha i)]
      exact (addN_zero h hc).symm
  · rw [if_neg (by omega), if_neg h1]
    exact (addN_zero h hc).symm
theorem accL_lt (a b : List Nat) (i j : Nat) : LtAll s (accL s p a b i j) := by
  intro k
  by_cases hk : k < a.length + b.length - 1
  · unfold accL
    rw [getD_map_range _ _ _ hk]
    unfold cacc
    have hc := csum_lt h (cterm s p a b k) (cterm_lt h a b k) i
    split
    · exact fadd_lt h _ _ hc (fmul_lt h _ _)
    · exact hc
  · rw [List.getD, List.getElem?_eq_none (by unfold accL; simp; omega)]
    have := h.two_le
    show 0 < s
    omega
/-- the terms of the last coefficient are 0 but for one -/
theorem csum_zero (f : Nat → Nat) (n : Nat) (hf : ∀ k, k < n → f k = 0) : csum s p f n = 0 := by
  induction n with
  | zero => rfl
  | succ n ih =>
    show faddN s p (csum s p f n) (f n) = 0
    rw [ih fun k hk => hf k (by omega), hf n (by omega)]
    exact addN_zero h (by have := h.two_le; omega)
theorem mulL_trimmed {a b : List Nat} (ha : LtAll s a) (hb : LtAll s b) (ta : Trimmed a) (tb : Trimmed b) : Trimmed (mulL s p a b) := by
  unfold mulL
  split
  · exact .inl rfl
  · rename_i hne
    have ha0 : a ≠ [] := fun e => hne (.inl e)
    have hb0 : b ≠ [] := fun e => hne (.inr e)
    have la : 0 < a.length := List.length_pos_iff.2 ha0
    have lb : 0 < b.length := List.length_pos_iff.2 hb0
    right
    have hlen : (accL s p a b a.length 0).length = a.length + b.length - 1 := by unfold accL; simp
    rw [hlen]
    unfold accL
    rw [getD_map_range _ _ _ (by omega), cacc_zero h]
    obtain ⟨n, hn⟩ : ∃ n, a.length = n + 1 := ⟨a.length - 1, by omega⟩
    rw [hn]
    show faddN s p (csum s p _ n) (cterm s p a b _ n) ≠ 0
    rw [csum_zero h _ _ (fun k hk => ?_)]
    · have e1 : cterm s p a b (n + 1 + b.length - 1 - 1) n = fmulN s p (a.getD n 0) (b.getD (b.length - 1) 0) := by
        unfold cterm
        rw [if_pos (by omega)]
        congr 2
        omega
      rw [e1, zero_addN h (fmul_lt h _ _)]
      refine mulN_ne h (ha _) (hb _) ?_ ?_
      · rcases ta with e | e
        · exact absurd e ha0
        · rw [hn] at e; exact e
      · rcases tb with e | e
        · exact absurd e hb0
        · exact e
    · unfold cterm
      split
      · have : b.getD (n + 1 + b.length - 1 - 1 - k) 0 = 0 := by rw [List.getD, List.getElem?_eq_none (by omega)]; rfl
        rw [this, mulN_zero h (ha k)]
      · rfl
end
end Go.Proofs.Ythpcneeidhmdkaa
namespace Go.Proofs.Ythpcneeidhmdkaa
open Go.RowKit
set_option linter.unusedVariables false
/-! slices of numbers that are read -/
def RD (w : World) (A : Option Addr) (xs : List Int) : Prop :=
  0 < xs.length → ∃ ad, A = some ad ∧ ad.block < w.heap.size ∧ ∀ j, j < xs.length → w.cell? (ad.add j) = some (.int .i64 (xs.getD j 0))
theorem block_of_add (a : Addr) (n : Nat) : (a.add n).block = a.block := by unfold Addr.add; split <;> rfl
theorem add_of_add (a : Addr) (i j : Nat) : (a.add i).add j = a.add (i + j) := by
  unfold Addr.add
  by_cases hi : i = 0 <;> by_cases hj : j = 0 <;> simp [hi, hj, Nat.add_assoc]
theorem add_plain (b o i : Nat) : (⟨b, o, none⟩ : Addr).add i = ⟨b, o + i, none⟩ := by unfold Addr.add; split <;> simp_all
theorem RD.below {W W' : World} {A : Option Addr} {xs : List Int} (h : RD W A xs) (hb : Below W.heap.size W W') : RD W' A xs := fun hn => by
  obtain ⟨ad, e, hl, hc⟩ := h hn
  exact ⟨ad, e, Nat.lt_of_lt_of_le hl hb.size, fun j hj => (hb.cell (by rw [block_of_add]; exact hl)).trans (hc j hj)⟩
theorem RD.alloc {W : World} {A : Option Addr} {xs : List Int} (h : RD W A xs) (o : Obj) : RD (W.alloc o) A xs := h.below ((Below.refl _ _).alloc (Nat.le_refl _) o)
theorem RD.drew {W : World} {A : Option Addr} {xs : List Int} (h : RD W A xs) : RD W.drew A xs := h
theorem RD.drewN {W : World} {A : Option Addr} {xs : List Int} (h : RD W A xs) (n : Nat) : RD (W.drewN n) A xs := h
theorem RD.nil_ (W : World) (A : Option Addr) : RD W A [] := fun h => absurd h (by simp)
theorem RD.of_own {W : World} {base : Nat} {e : TypeId} {n : Nat} {A : Option Addr} {c : Nat} {xs : List Int} (h : W.ownsRow base e 1 (.slice A n c) n (xs.map (Value.int .i64))) : RD W A xs := fun hn => by
  have hl : xs.length = n := by have := h.1; simpa using this
  obtain ⟨g, cap, hv, _, hlt⟩ := h.form (by omega)
  have hA : A = some ⟨g, 0, none⟩ := by injection hv
  subst hA
  refine ⟨_, rfl, hlt, fun j hj => h.cells (g := g) rfl j _ ?_⟩
  simp [List.getD, hj]
/-- numbers as the program holds them -/
def zl (l : List Nat) : List Int := l.map (fun n : Nat => (n : Int))
theorem zl_length (l : List Nat) : (zl l).length = l.length := by simp [zl]
theorem zl_getD (l : List Nat) (i : Nat) : (zl l).getD i 0 = ((l.getD i 0 : Nat) : Int) := by
  unfold zl
  by_cases h : i < l.length
  · simp [List.getD, h]
  · simp [List.getD, List.getElem?_eq_none (show l.length ≤ i by omega)]
/-- a slice value that reads as a list -/
def Ints (w : World) (v : Value) (xs : List Int) : Prop := ∃ A c, v = .slice A xs.length c ∧ xs.length ≤ c ∧ c ≤ maxLen ∧ RD w A xs
theorem Ints.below {W W' : World} {v : Value} {xs : List Int} (h : Ints W v xs) (hb : Below W.heap.size W W') : Ints W' v xs := by
  obtain ⟨A, c, rfl, h1, h2, h3⟩ := h
  exact ⟨A, c, rfl, h1, h2, h3.below hb⟩
theorem Ints.nil_ (w : World) : Ints w (.slice none 0 0) [] := ⟨none, 0, rfl, by simp, by simp, RD.nil_ _ _⟩
theorem Ints.of_own {W : World} {base : Nat} {e : TypeId} {n : Nat} {v : Value} {xs : List Int} (h : W.ownsRow base e 1 v n (xs.map (Value.int .i64))) : Ints W v xs := by
  have hl : xs.length = n := by have := h.1; simpa using this
  rcases h.2 with ⟨rfl, rfl⟩ | ⟨g, cap, cur, rfl, _, _, hnc, hcm, _⟩
  · have : xs = [] := List.eq_nil_of_length_eq_zero hl
    subst this; exact Ints.nil_ _
  · refine ⟨_, cap, by rw [hl], by omega, hcm, RD.of_own h⟩
/-- are all numbers elements? -/
theorem inB_step {s : Int} {xs : List Int} {k : Nat} (hk : k < xs.length) (h : ¬ (0 ≤ xs.getD k 0 ∧ xs.getD k 0 < s)) : inB s xs = false := by
  unfold inB; rw [List.all_eq_false]
  refine ⟨xs[k], List.getElem_mem hk, ?_⟩
  have e : xs.getD k 0 = xs[k] := by simp [List.getD, hk]
  rw [e] at h
  simpa [Classical.not_and_iff_not_or_not] using h
theorem inB_end {s : Int} {xs : List Int} (h : ∀ j, j < xs.length → 0 ≤ xs.getD j 0 ∧ xs.getD j 0 < s) : inB s xs = true := by
  unfold inB; rw [List.all_eq_true]
  intro a ha
  obtain ⟨j, hj, rfl⟩ := List.getElem_of_mem ha
  have := h j hj
  rw [List.getD_eq_getElem?_getD, List.getElem?_eq_getElem hj] at this
  simpa using this
end Go.Proofs.Ythpcneeidhmdkaa
namespace Go.Proofs.Ythpcneeidhmdkaa
open Go.RowKit
set_option linter.unusedVariables false
/-! append of numbers that are read, to a row of the call's own -/
theorem zint_one (ys : List Int) : ∀ u ∈ ys.map (Value.int .i64), u.oneCell' = true := by
  intro u hu
  obtain ⟨y, _, rfl⟩ := List.mem_map.1 hu
  rfl
section
variable {P : Program} (w : World)
theorem append_nothing (base : Nat) (t ty e : TypeId) (i : TypeInfo) (ht : P.underlying t = some (.slice e)) (hi : P.info? e = some i)
    (v : Value) (n : Nat) (xs : List Value) (hown : w.ownsRow base e 1 v n xs) (c : Nat) : (Builtin.append_ #[t, t] ty #[v, .slice none 0 c]).run P w = .ok v w := by
  rcases hown.2 with ⟨rfl, rfl⟩ | ⟨g, cap, cur, rfl, _, _, hnc, _⟩
  · simp [Builtin.append_, run_underlying ht, sizeOf, typeInfo, hi, Builtin.lenOf, Builtin.firstCells]
  · simp [Builtin.append_, run_underlying ht, sizeOf, typeInfo, hi, Builtin.lenOf, Builtin.firstCells, hnc, storeCells]
theorem append_read (base : Nat) (t ty e : TypeId) (i : TypeInfo) (z : Value) (ht : P.underlying t = some (.slice e)) (hi : P.info? e = some i) (hz : i.zero = some z)
    (hsize : i.size = 1) (hby : i.bytes = 8) (hzs : z.cells.size = 1)
    (v : Value) (n : Nat) (xs : List Int) (hown : w.ownsRow base e 1 v n (xs.map (Value.int .i64)))
    (A : Option Addr) (m c : Nat) (ys : List Int) (hm : m = ys.length) (hr : RD w A ys) (hA : A = none → m = 0)
    (h63 : (n + m) * 8 ≤ 140737488355328) (hbase : base ≤ w.heap.size) :
    ∃ v' w', (Builtin.append_ #[t, t] ty #[v, .slice A m c]).run P w = .ok v' w' ∧ w'.ownsRow base e 1 v' (n + m) ((xs ++ ys).map (Value.int .i64)) ∧ w.grownBy w' v.ownBlock ∧
      (v'.ownBlock = v.ownBlock ∨ v'.ownBlock = some w.heap.size) := by
  subst hm
  rcases A with _ | ad
  · have h0 := hA rfl
    have hy : ys = [] := List.eq_nil_of_length_eq_zero h0
    subst hy
    exact ⟨v, w, append_nothing w base t ty e i ht hi v n _ hown c, by simpa using hown, World.grownBy.refl w _, .inl rfl⟩
  · have hcells : ∀ j u, (ys.map (Value.int .i64))[j]? = some u → w.cell? (ad.add j) = some u := by
      intro j u hu
      have hj : j < ys.length := by
        rcases Nat.lt_or_ge j ys.length with h | h
        · exact h
        · rw [List.getElem?_eq_none (by simpa using h)] at hu; cases hu
      obtain ⟨ad', h, _, hc⟩ := hr (by omega)
      injection h with h
      subst h
      rw [hc j hj]
      simpa [List.getD, hj] using hu
    obtain ⟨v', w', hrun, h2, h3, _, h5⟩ := run_append_own_at (P := P) w base t ty e i z 1 8 ht hi hz hsize hby hzs (by omega) v n _ hown ad ys.length c (ys.map (Value.int .i64)) (by simp) hcells (zint_one ys)
      (by simp only [maxLen]; omega) h63 hbase
    exact ⟨v', w', hrun, by rw [List.map_append]; exact h2, h3, h5⟩
omit w in
theorem wpList_append_read {w : World} {ops : Array Oper} {rest : List Oper} {o : Oper} {a : Act} {Q : Exit → Act → World → Prop} (hgd : o.guard = none) (s x : Operand) (t : TypeId)
    (ho : o.op = .call { callee := .builtin .append, args := #[s, x], argTypes := #[t, t] })
    (base : Nat) (e : TypeId) (i : TypeInfo) (z : Value) (ht : P.underlying t = some (.slice e)) (hi : P.info? e = some i) (hz : i.zero = some z)
    (hsize : i.size = 1) (hby : i.bytes = 8) (hzs : z.cells.size = 1)
    (v : Value) (n : Nat) (xs : List Int) (hs : a.eval s = v) (hown : w.ownsRow base e 1 v n (xs.map (Value.int .i64)))
    (A : Option Addr) (m c : Nat) (ys : List Int) (hx : a.eval x = .slice A m c) (hm : m = ys.length) (hr : RD w A ys)
    (h63 : (n + m) * 8 ≤ 140737488355328) (hbase : base ≤ w.heap.size)
    (h : ∀ v' w', w'.ownsRow base e 1 v' (n + m) ((xs ++ ys).map (Value.int .i64)) → w.grownBy w' v.ownBlock → (v'.ownBlock = v.ownBlock ∨ v'.ownBlock = some w.heap.size) → wpList P ops Q rest (a.put o.dst v') w') :
    wpList P ops Q (o :: rest) a w := by
  refine wpList_plain hgd fun K hK => ?_
  have hA : A = none → m = 0 := by
    intro h0
    rcases Nat.eq_zero_or_pos m with h1 | h1
    · exact h1
    · obtain ⟨ad, h2, _⟩ := hr (by omega)
      rw [h0] at h2; cases h2
  obtain ⟨v', w', hrun, h2, h3, h4⟩ := append_read (P := P) w base t o.type e i z ht hi hz hsize hby hzs v n xs hown A m c ys hm hr hA h63 hbase
  unfold Oper.wp execOp
  simp only [ho, resolve, invoke, builtin, Sem.run_bind, Sem.run_pure, Result.andThen_ok, List.map_toArray, List.map_cons, List.map_nil, hs, hx, hrun]
  exact hK _ _ (h v' w' h2 h3 h4)
end
end Go.Proofs.Ythpcneeidhmdkaa
namespace Go.Proofs.Ythpcneeidhmdkaa
open Go.RowKit
set_option linter.unusedVariables false
theorem list_eq_of {xs ys : List Int} {n : Nat} (h1 : xs.length = n) (h2 : ys.length = n) (h : ∀ j, j < n → xs.getD j 0 = ys.getD j 0) : xs = ys := by
  apply List.ext_getElem (by omega)
  intro i a b
  have := h i (by omega)
  simpa [List.getD, a, b] using this
set_option maxHeartbeats 400000 in
theorem Same_any (xs ys : List Int) (A B : Option Addr) (ca cb : Nat) (w : World) (h1 : xs.length ≤ 9223372036854775807) (ha : RD w A xs) (hb : RD w B ys) :
    Calls Try.prog 54 #[.slice A xs.length ca, .slice B ys.length cb] w fun e w' => e = .returned (.bool (decide (xs = ys))) ∧ Below w.heap.size w w' := by
  by_cases hl : xs.length = ys.length
  · have HA := Lib.hid ha
    have HB := Lib.hid hb
    clear ha hb
    rw [← hl]
    generalize hn : xs.length = n at *
    have HL := Lib.hid hl.symm
    have HN := Lib.hid hn
    clear hn hl
    go_enter Try.func54, Try.ntmps54
    go_wp2
    go_loopw [5] (fun i wr => ∃ k : Nat, k ≤ n ∧ i = .int .i64 k ∧ Hid (∀ j, j < k → xs.getD j 0 = ys.getD j 0) ∧ Hid (Below w.heap.size w wr)) (fun i _ => n - (intOf i).toNat)
    case atStart => exact ⟨0, Nat.zero_le _, rfl, fun j hj => by omega, Below.refl _ _⟩
    case round =>
      obtain ⟨k, hk, rfl, hid, hbw⟩ := hrel
      by_cases hlt : k < n
      · obtain ⟨ad, rfl, -, hc1⟩ := (HA.out.below hbw.out) (by rw [HN.out]; omega)
        obtain ⟨bd, rfl, -, hc2⟩ := (HB.out.below hbw.out) (by rw [HL.out]; omega)
        have hx1 := hc1 k (by rw [HN.out]; exact hlt)
        have hx2 := hc2 k (by rw [HL.out]; exact hlt)
        clear hc1 hc2
        generalize hx : xs.getD k 0 = x at *
        generalize hy : ys.getD k 0 = y at *
        have Hx := Lib.hid hx
        have Hy := Lib.hid hy
        clear hx hy
        by_cases hxy : x = y
        · subst hxy
          go_wp2
          go_quiet (fail)
          go_wp2
          refine ⟨⟨k + 1, by omega, by go_num, ?_, ?_⟩, by simp [intOf]; omega⟩
          · intro j hj
            by_cases hjk : j = k
            · subst hjk; rw [Hx.out, Hy.out]
            · exact hid.out j (by omega)
          · exact below_drewN hbw.out _
        · have hI : decide (xs = ys) = false := by
            rw [decide_eq_false_iff_not]; intro e; apply hxy; rw [← Hx.out, ← Hy.out, e]
          have HI := Lib.hid hI; clear hI
          go_wp2
          go_quiet (fail)
          go_wp2
          go_ret
          exact ⟨ret_bool HI.out.symm, below_drewN hbw.out _⟩
      · obtain rfl : k = n := by omega
        have hI : decide (xs = ys) = true := by
          rw [decide_eq_true_iff]; exact list_eq_of HN.out HL.out hid.out
        have HI := Lib.hid hI; clear hI
        go_wp2
        go_ret
        exact ⟨ret_bool HI.out.symm, hbw.out⟩
  · have hI : decide (xs = ys) = false := by
      rw [decide_eq_false_iff_not]; intro e; exact hl (by rw [e])
    have HI := Lib.hid hI; clear hI ha hb
    generalize xs.length = n at *
    generalize ys.length = m at *
    go_enter Try.func54, Try.ntmps54
    go_wp2
    all_goals go_ret
    all_goals exact ⟨ret_bool HI.out.symm, Below.refl _ _⟩
set_option maxHeartbeats 400000 in
theorem same_any (xs ys : List Int) (A B : Option Addr) (ca cb : Nat) (w : World) (h1 : xs.length ≤ 9223372036854775807) (ha : RD w A xs) (hb : RD w B ys) :
    Calls Try.prog 17 #[.slice A xs.length ca, .slice B ys.length cb] w fun e w' => e = .returned (.bool (decide (xs = ys))) ∧ Below w.heap.size w w' := by
  have HA := Lib.hid ha
  have HB := Lib.hid hb
  have H1 := Lib.hid h1
  clear ha hb h1
  go_enter Try.func17, Try.ntmps17
  go_wp2_with (go_at_call 54; refine (Same_any xs ys A B ca cb _ H1.out HA.out HB.out).mono ?_; rintro e w1 ⟨rfl, hb1⟩)
  go_ret
  exact ⟨rfl, hb1⟩
set_option maxHeartbeats 400000 in
theorem at_any (xs : List Int) (A : Option Addr) (ca : Nat) (k : Nat) (w : World) (ha : RD w A xs) :
    Calls Try.prog 75 #[.slice A xs.length ca, .int .i64 k] w fun e w' => e = .returned (.int .i64 (xs.getD k 0)) ∧ w' = w := by
  by_cases hlt : k < xs.length
  · obtain ⟨ad, rfl, -, hc⟩ := ha (by omega)
    have hx := hc k hlt
    clear hc
    generalize xs.getD k 0 = x at *
    generalize xs.length = n at *
    go_enter Try.func75, Try.ntmps75
    go_wp2
    go_ret
    exact ⟨rfl, rfl⟩
  · have hx : xs.getD k 0 = 0 := by simp [List.getD, List.getElem?_eq_none (show xs.length ≤ k by omega)]
    rw [hx]
    clear hx ha
    generalize xs.length = n at *
    go_enter Try.func75, Try.ntmps75
    go_wp2
    go_ret
    exact ⟨rfl, rfl⟩
set_option maxHeartbeats 400000 in
theorem elements_any (c s p : Int) (xs : List Int) (A : Option Addr) (ca : Nat) (w : World) (h1 : xs.length ≤ 9223372036854775807) (ha : RD w A xs) :
    Calls Try.prog 55 #[fldv c s p, .slice A xs.length ca] w fun e w' => e = .returned (.bool (inB s xs)) ∧ Below w.heap.size w w' := by
  have HA := Lib.hid (ha.alloc (.cells #[.int .i64 c, .int .i64 s, .int .i64 p] 23)); clear ha
  generalize hn : xs.length = n at *
  have HN := Lib.hid hn
  clear hn
  go_enter Try.func55, Try.ntmps55
  go_wp2
  go_loop [6, 9] (fun _ i => ∃ k : Nat, k ≤ n ∧ i = .int .i64 k ∧ Hid (∀ j, j < k → 0 ≤ xs.getD j 0 ∧ xs.getD j 0 < s)) (fun _ i => n - (intOf i).toNat)
  case atStart => exact ⟨0, Nat.zero_le _, rfl, fun j hj => by omega⟩
  case round =>
    obtain ⟨k, hk, rfl, hid⟩ := hrel
    have hfin : Hid (Below w.heap.size w (w.alloc (.cells #[.int .i64 c, .int .i64 s, .int .i64 p] 23))) := (Below.refl _ _).alloc (Nat.le_refl _) _
    by_cases hlt : k < n
    · obtain ⟨ad, rfl, -, hc1⟩ := HA.out (by rw [HN.out]; omega)
      have hx1 := hc1 k (by rw [HN.out]; exact hlt)
      clear hc1
      generalize hx : xs.getD k 0 = x at *
      have Hx := Lib.hid hx
      clear hx
      by_cases h2 : x < 0
      · have HI := Lib.hid (inB_step (s := s) (k := k) (by rw [HN.out]; exact hlt) (by rw [Hx.out]; omega))
        go_wp2
        go_ret
        exact ⟨ret_bool HI.out.symm, hfin.out⟩
      · by_cases h3 : s ≤ x
        · have HI := Lib.hid (inB_step (s := s) (k := k) (by rw [HN.out]; exact hlt) (by rw [Hx.out]; omega))
          go_wp2
          go_ret
          exact ⟨ret_bool HI.out.symm, hfin.out⟩
        · go_wp2
          refine ⟨⟨k + 1, by omega, by go_num, ?_⟩, by simp [intOf]; omega⟩
          intro j hj
          by_cases hjk : j = k
          · subst hjk; rw [Hx.out]; omega
          · exact hid.out j (by omega)
    · obtain rfl : k = n := by omega
      have HI := Lib.hid (inB_end (s := s) (xs := xs) (by rw [HN.out]; exact hid.out))
      go_wp2
      go_ret
      exact ⟨ret_bool HI.out.symm, hfin.out⟩
set_option maxHeartbeats 400000 in
theorem element_any (c s p x : Int) (w : World) :
    Calls Try.prog 70 #[fldv c s p, .int .i64 x] w fun e w' => e = .returned (.bool (isB s x)) ∧ Below w.heap.size w w' := by
  have hfin : Hid (Below w.heap.size w (w.alloc (.cells #[.int .i64 c, .int .i64 s, .int .i64 p] 23))) := (Below.refl _ _).alloc (Nat.le_refl _) _
  by_cases h1 : 0 ≤ x
  · by_cases h2 : x < s
    · have HI : Hid (isB s x = true) := by show _ = _; unfold isB; simp [h1, h2]
      go_enter Try.func70, Try.ntmps70
      go_wp2
      go_ret
      exact ⟨ret_bool HI.out.symm, hfin.out⟩
    · have HI : Hid (isB s x = false) := by show _ = _; unfold isB; simp [h2]
      go_enter Try.func70, Try.ntmps70
      go_wp2
      go_ret
      exact ⟨ret_bool HI.out.symm, hfin.out⟩
  · have HI : Hid (isB s x = false) := by show _ = _; unfold isB; simp [h1]
    go_enter Try.func70, Try.ntmps70
    go_wp2
    go_ret
    exact ⟨ret_bool HI.out.symm, hfin.out⟩
end Go.Proofs.Ythpcneeidhmdkaa
namespace Go.Proofs.Ythpcneeidhmdkaa
open Go.RowKit
set_option linter.unusedVariables false
/-! the arithmetic by tables -/
theorem wr64 (z : Int) (h1 : -100000 ≤ z) (h2 : z ≤ 100000) : IntKind.i64.wrap z = z := by
  rw [IntKind.wrap_i64]
  omega
abbrev arv (C S be bl : Nat) : Value := .agg #[.int .i64 C, .int .i64 S, .slice (some ⟨be, 0, none⟩) (S - 1) (S - 1), .slice (some ⟨bl, 0, none⟩) S S]
abbrev arc (C S be bl : Nat) : Obj := .cells #[.int .i64 C, .int .i64 S, .slice (some ⟨be, 0, none⟩) (S - 1) (S - 1), .slice (some ⟨bl, 0, none⟩) S S] 51
def TabAt (w : World) (S P be bl : Nat) : Prop := be < w.heap.size ∧ bl < w.heap.size ∧ (∀ i, i < S - 1 → w.cell? ⟨be, i, none⟩ = some (.int .i64 ((fpowN S P (genF S P) i : Nat) : Int))) ∧
  (∀ x, x < S → x ≠ 0 → w.cell? ⟨bl, x, none⟩ = some (.int .i64 ((logF S P x : Nat) : Int)))
theorem TabAt.below {W W' : World} {S P be bl : Nat} (h : TabAt W S P be bl) (hb : Below W.heap.size W W') : TabAt W' S P be bl :=
  ⟨Nat.lt_of_lt_of_le h.1 hb.size, Nat.lt_of_lt_of_le h.2.1 hb.size, fun i hi => (hb.cell h.1).trans (h.2.2.1 i hi), fun x hx h0 => (hb.cell h.2.1).trans (h.2.2.2 x hx h0)⟩
theorem TabAt.alloc {W : World} {S P be bl : Nat} (h : TabAt W S P be bl) (o : Obj) : TabAt (W.alloc o) S P be bl := h.below ((Below.refl _ _).alloc (Nat.le_refl _) o)
theorem TabAt.drewN {W : World} {S P be bl : Nat} (h : TabAt W S P be bl) (n : Nat) : TabAt (W.drewN n) S P be bl := h
theorem VF.char2 {C S P : Nat} (h : VF C S P) : (C = 2 ∧ P ≠ 0) ∨ (C ≠ 2 ∧ P = 0) := by
  rcases h with ⟨h1, h2, h3, _⟩ | ⟨d, h1, _, h2, _, h3, _⟩
  · right; omega
  · left
    refine ⟨h3, ?_⟩
    rintro rfl
    have : bl 0 = 0 := by decide
    omega
theorem xor_lt_of (x y d : Nat) (hx : x < 2 ^ d) (hy : y < 2 ^ d) : x ^^^ y < 2 ^ d := Nat.xor_lt_two_pow hx hy
set_option maxHeartbeats 800000 in
theorem amul_any (C S P be bl x y : Nat) (w : World) (hv : VF C S P) (hx : x < S) (hy : y < S) (ht : TabAt w S P be bl) :
    Calls Try.prog 77 #[arv C S be bl, .int .i64 x, .int .i64 y] w fun e w' => e = .returned (.int .i64 ((fmulN S P x y : Nat) : Int)) ∧ Below w.heap.size w w' := by
  have hfin : Hid (Below w.heap.size w (w.alloc (arc C S be bl))) := (Below.refl _ _).alloc (Nat.le_refl _) _
  by_cases hx0 : x = 0
  · subst hx0
    have HR := Lib.hid (zero_mulN hv hy)
    clear hv ht
    go_enter Try.func77, Try.ntmps77
    go_wp2
    go_ret
    exact ⟨ret_int (by rw [HR.out]; rfl), hfin.out⟩
  by_cases hy0 : y = 0
  · subst hy0
    have HR := Lib.hid (mulN_zero hv hx)
    clear hv ht
    go_enter Try.func77, Try.ntmps77
    go_wp2
    go_ret
    exact ⟨ret_int (by rw [HR.out]; rfl), hfin.out⟩
  have hS := hv.le
  have hS2 := hv.two_le
  have l1 := (logF_spec hv hx hx0).1
  have l2 := (logF_spec hv hy hy0).1
  have hT := ht.alloc (arc C S be bl)
  have c1 := hT.2.2.2 x hx hx0
  have c2 := hT.2.2.2 y hy hy0
  have hm : (logF S P x + logF S P y) % (S - 1) < S - 1 := Nat.mod_lt _ (by omega)
  have c3 := hT.2.2.1 _ hm
  rw [tab_mul hv hx hy hx0 hy0] at c3
  generalize fmulN S P x y = r at *
  generalize logF S P x = lx at *
  generalize logF S P y = ly at *
  have e1 : ((lx : Int) + ly).tmod ((S : Int) - 1) = (((lx + ly) % (S - 1) : Nat) : Int) := by
    rw [show (lx : Int) + ly = ((lx + ly : Nat) : Int) from by omega, show (S : Int) - 1 = ((S - 1 : Nat) : Int) from by omega]
    exact (Int.ofNat_tmod _ _).symm
  generalize (lx + ly) % (S - 1) = m at *
  have e2 : IntKind.i64.wrap ((lx : Int) + ly) = (lx : Int) + ly := wr64 _ (by omega) (by omega)
  have z1 : ((x : Int) == 0) = false := by rw [beq_eq_false_iff_ne]; omega
  have z2 : ((y : Int) == 0) = false := by rw [beq_eq_false_iff_ne]; omega
  clear hT ht hv hx0 hy0
  go_enter Try.func77, Try.ntmps77
  go_wp2
  go_quiet (fail)
  go_wp2
  go_ret
  exact ⟨rfl, below_drewN hfin.out _⟩
set_option maxHeartbeats 800000 in
theorem adiv_any (C S P be bl x y : Nat) (w : World) (hv : VF C S P) (hx : x < S) (hy : y < S) (hy0 : y ≠ 0) (ht : TabAt w S P be bl) :
    Calls Try.prog 56 #[arv C S be bl, .int .i64 x, .int .i64 y] w fun e w' => e = .returned (.int .i64 ((fmulN S P x (finvN S P y) : Nat) : Int)) ∧ Below w.heap.size w w' := by
  have hfin : Hid (Below w.heap.size w (w.alloc (arc C S be bl))) := (Below.refl _ _).alloc (Nat.le_refl _) _
  by_cases hx0 : x = 0
  · subst hx0
    have HR := Lib.hid (zero_mulN hv (invN_lt hv (x := y)))
    clear hv ht hy hx hy0
    go_enter Try.func56, Try.ntmps56
    go_wp2
    go_ret
    exact ⟨ret_int (by rw [HR.out]; rfl), hfin.out⟩
  have hS := hv.le
  have hS2 := hv.two_le
  have l1 := (logF_spec hv hx hx0).1
  have l2 := (logF_spec hv hy hy0).1
  have hT := ht.alloc (arc C S be bl)
  have c1 := hT.2.2.2 x hx hx0
  have c2 := hT.2.2.2 y hy hy0
  have hm : (logF S P x + (S - 1) - logF S P y) % (S - 1) < S - 1 := Nat.mod_lt _ (by omega)
  have c3 := hT.2.2.1 _ hm
  rw [tab_div hv hx hy hx0 hy0] at c3
  generalize fmulN S P x (finvN S P y) = r at *
  generalize logF S P x = lx at *
  generalize logF S P y = ly at *
  have e1 : ((lx : Int) - ly + S - 1).tmod ((S : Int) - 1) = (((lx + (S - 1) - ly) % (S - 1) : Nat) : Int) := by
    rw [show (lx : Int) - ly + S - 1 = ((lx + (S - 1) - ly : Nat) : Int) from by omega, show (S : Int) - 1 = ((S - 1 : Nat) : Int) from by omega]
    exact (Int.ofNat_tmod _ _).symm
  generalize (lx + (S - 1) - ly) % (S - 1) = m at *
  have e2 : IntKind.i64.wrap ((lx : Int) - ly) = (lx : Int) - ly := wr64 _ (by omega) (by omega)
  have e3 : IntKind.i64.wrap ((lx : Int) - ly + S) = (lx : Int) - ly + S := wr64 _ (by omega) (by omega)
  have e4 : IntKind.i64.wrap ((lx : Int) - ly + S - 1) = (lx : Int) - ly + S - 1 := wr64 _ (by omega) (by omega)
  have z1 : ((x : Int) == 0) = false := by rw [beq_eq_false_iff_ne]; omega
  clear hT ht hv hx0 hy0
  go_enter Try.func56, Try.ntmps56
  go_wp2
  go_quiet (fail)
  go_wp2
  go_ret
  exact ⟨rfl, below_drewN hfin.out _⟩
theorem VF.bin {C S P : Nat} (h : VF C S P) (hP : P ≠ 0) : ∃ d, d ≤ 12 ∧ S = 2 ^ d := by
  rcases h with ⟨h1, _⟩ | ⟨d, _, h1, _, h2, _⟩
  · exact absurd h1 hP
  · exact ⟨d, h1, h2⟩
set_option maxHeartbeats 800000 in
theorem aadd_any (C S P be bl x y : Nat) (w : World) (hv : VF C S P) (hx : x < S) (hy : y < S) :
    Calls Try.prog 72 #[arv C S be bl, .int .i64 x, .int .i64 y] w fun e w' => e = .returned (.int .i64 ((faddN S P x y : Nat) : Int)) ∧ Below w.heap.size w w' := by
  have hfin : Hid (Below w.heap.size w (w.alloc (arc C S be bl))) := (Below.refl _ _).alloc (Nat.le_refl _) _
  have hS := hv.le
  rcases hv.char2 with ⟨rfl, hP⟩ | ⟨hC, rfl⟩
  · have HR : Hid (bits BinOp.xor IntKind.i64 (x : Int) (y : Int) = ((faddN S P x y : Nat) : Int)) := by
      show _ = _
      rw [i64_xor_nat _ _ (by omega) (by omega)]; unfold faddN; rw [if_neg hP]
    clear hv hP
    go_enter Try.func72, Try.ntmps72
    go_wp2
    go_ret
    exact ⟨ret_int HR.out, hfin.out⟩
  · have hS2 := hv.two_le
    have HR : Hid (((x : Int) + y).tmod S = ((faddN S 0 x y : Nat) : Int)) := by
      show _ = _
      unfold faddN; rw [if_pos rfl, show (x : Int) + y = ((x + y : Nat) : Int) from by omega]; exact (Int.ofNat_tmod _ _).symm
    have z1 : ((C : Int) == 2) = false := by rw [beq_eq_false_iff_ne]; omega
    clear hv hC
    go_enter Try.func72, Try.ntmps72
    go_wp2
    go_ret
    exact ⟨ret_int HR.out, hfin.out⟩
set_option maxHeartbeats 800000 in
theorem asub_any (C S P be bl x y : Nat) (w : World) (hv : VF C S P) (hx : x < S) (hy : y < S) :
    Calls Try.prog 57 #[arv C S be bl, .int .i64 x, .int .i64 y] w fun e w' => e = .returned (.int .i64 ((fsubN S P x y : Nat) : Int)) ∧ Below w.heap.size w w' := by
  have hfin : Hid (Below w.heap.size w (w.alloc (arc C S be bl))) := (Below.refl _ _).alloc (Nat.le_refl _) _
  have hS := hv.le
  rcases hv.char2 with ⟨rfl, hP⟩ | ⟨hC, rfl⟩
  · have HR : Hid (bits BinOp.xor IntKind.i64 (x : Int) (y : Int) = ((fsubN S P x y : Nat) : Int)) := by
      show _ = _
      rw [i64_xor_nat _ _ (by omega) (by omega)]; unfold fsubN; rw [if_neg hP]
    clear hv hP
    go_enter Try.func57, Try.ntmps57
    go_wp2
    go_ret
    exact ⟨ret_int HR.out, hfin.out⟩
  · have hS2 := hv.two_le
    have HR : Hid (((x : Int) - y + S) % S = ((fsubN S 0 x y : Nat) : Int)) := by
      show _ = _
      unfold fsubN; rw [if_pos rfl, show (x : Int) - y + S = ((x + S - y : Nat) : Int) from by omega]; exact (Int.natCast_emod _ _).symm
    have z1 : ((C : Int) == 2) = false := by rw [beq_eq_false_iff_ne]; omega
    clear hv hC
    go_enter Try.func57, Try.ntmps57
    go_wp2
    go_ret
    exact ⟨ret_int HR.out, hfin.out⟩
end Go.Proofs.Ythpcneeidhmdkaa
namespace Go.Proofs.Ythpcneeidhmdkaa
open Go.RowKit
set_option linter.unusedVariables false
/-! the reference's arithmetic -/
theorem bw1 {w w1 : World} {o : Obj} (hb : Below (w.alloc o).heap.size (w.alloc o) w1) : Below w.heap.size w w1 := ((Below.refl _ _).alloc (Nat.le_refl _) _).trans (hb.mono (by simp))
set_option maxHeartbeats 400000 in
theorem rfplus_any (C S P x y : Nat) (w : World) (hv : VF C S P) (hx : x < S) (hy : y < S) :
    Calls Try.prog 52 #[fldv C S P, .int .i64 x, .int .i64 y] w fun e w' => e = .returned (.int .i64 ((faddN S P x y : Nat) : Int)) ∧ Below w.heap.size w w' := by
  have HV := Lib.hid hv; clear hv
  go_enter Try.func52, Try.ntmps52
  go_wp2_with (go_at_call 83; refine (rplus_any C S P x y _ HV.out (by omega) (by omega) (by omega) (by omega)).mono ?_; rintro e w1 ⟨rfl, hb1⟩)
  go_ret
  exact ⟨rfl, bw1 hb1⟩
set_option maxHeartbeats 400000 in
theorem rfless_any (C S P x y : Nat) (w : World) (hv : VF C S P) (hx : x < S) (hy : y < S) :
    Calls Try.prog 63 #[fldv C S P, .int .i64 x, .int .i64 y] w fun e w' => e = .returned (.int .i64 ((fsubN S P x y : Nat) : Int)) ∧ Below w.heap.size w w' := by
  have HV := Lib.hid hv; clear hv
  go_enter Try.func63, Try.ntmps63
  go_wp2_with (go_at_call 90; refine (rminus_any C S P x y _ HV.out (by omega) (by omega) (by omega) (by omega)).mono ?_; rintro e w1 ⟨rfl, hb1⟩)
  go_ret
  exact ⟨rfl, bw1 hb1⟩
set_option maxHeartbeats 400000 in
theorem rftimes_any (C S P x y : Nat) (w : World) (hv : VF C S P) (hx : x < S) (hy : y < S) :
    Calls Try.prog 53 #[fldv C S P, .int .i64 x, .int .i64 y] w fun e w' => e = .returned (.int .i64 ((fmulN S P x y : Nat) : Int)) ∧ Below w.heap.size w w' := by
  have hfin : Hid (Below w.heap.size w (w.alloc (.cells #[.int .i64 C, .int .i64 S, .int .i64 P] 23))) := (Below.refl _ _).alloc (Nat.le_refl _) _
  by_cases hx0 : x = 0
  · subst hx0
    have HR := Lib.hid (zero_mulN hv hy)
    clear hv
    go_enter Try.func53, Try.ntmps53
    go_wp2
    go_ret
    exact ⟨ret_int (by rw [HR.out]; rfl), hfin.out⟩
  by_cases hy0 : y = 0
  · subst hy0
    have HR := Lib.hid (mulN_zero hv hx)
    clear hv
    go_enter Try.func53, Try.ntmps53
    go_wp2
    go_ret
    exact ⟨ret_int (by rw [HR.out]; rfl), hfin.out⟩
  have HV := Lib.hid hv
  have z1 : ((x : Int) == 0) = false := by rw [beq_eq_false_iff_ne]; omega
  have z2 : ((y : Int) == 0) = false := by rw [beq_eq_false_iff_ne]; omega
  clear hv hx0 hy0
  go_enter Try.func53, Try.ntmps53
  go_wp2_with (go_at_call 84; refine (times_any C S P x y _ HV.out (by omega) (by omega) (by omega) (by omega)).mono ?_; rintro e w1 ⟨rfl, hb1⟩)
  go_ret
  exact ⟨rfl, bw1 hb1⟩
end Go.Proofs.Ythpcneeidhmdkaa
namespace Go.Proofs.Ythpcneeidhmdkaa
open Go.RowKit
set_option linter.unusedVariables false
/-! Trim -/
def tlI (l : List Int) : Nat → Nat
  | 0 => 0
  | n + 1 => if l.getD n 0 = 0 then tlI l n else n + 1
theorem tlI_le (l : List Int) (n : Nat) : tlI l n ≤ n := by
  induction n with
  | zero => exact Nat.le_refl _
  | succ n ih => unfold tlI; split <;> omega
def trimI (l : List Int) : List Int := l.take (tlI l l.length)
theorem tlI_zl (l : List Nat) (n : Nat) : tlI (zl l) n = tl l n := by
  induction n with
  | zero => rfl
  | succ n ih => unfold tlI tl; rw [zl_getD, ih]; simp
theorem trimI_zl (l : List Nat) : trimI (zl l) = zl (trimL l) := by
  unfold trimI trimL
  rw [zl_length, tlI_zl]
  unfold zl
  rw [List.map_take]
theorem RD.take {w : World} {A : Option Addr} {xs : List Int} (h : RD w A xs) (k : Nat) : RD w A (xs.take k) := fun hn => by
  rw [List.length_take] at hn
  obtain ⟨ad, e, hl, hc⟩ := h (by omega)
  refine ⟨ad, e, hl, fun j hj => ?_⟩
  rw [List.length_take] at hj
  rw [hc j (by omega)]
  simp [List.getD, show j < k by omega]
theorem intInfo : (Try.prog.info? 3).map (fun i => (i.zero, i.size, i.bytes)) = some (some (.int .i64 0), 1, 8) := by kernel_rfl
set_option maxHeartbeats 800000 in
theorem Trim_any (xs : List Int) (A : Option Addr) (ca : Nat) (w : World) (h1 : xs.length * 8 ≤ 140737488355328) (hca : xs.length ≤ ca) (ha : RD w A xs) :
    Calls Try.prog 34 #[.slice A xs.length ca] w fun e w' => ∃ v, e = .returned v ∧ Ints w' v (trimI xs) ∧ Below w.heap.size w w' := by
  obtain ⟨i0, hi, hz0, hz1, hz2⟩ := info_parts intInfo
  have HA := Lib.hid ha
  clear ha
  generalize hn : xs.length = n at *
  have HN := Lib.hid hn
  clear hn
  go_enter Try.func34, Try.ntmps34
  go_wp2
  go_loop [3] (fun i => ∃ k : Nat, k ≤ n ∧ i = .int .i64 k ∧ Hid (tlI xs n = tlI xs k)) (fun i => (intOf i).toNat)
  case atStart => exact ⟨n, Nat.le_refl _, rfl, rfl⟩
  case round =>
    obtain ⟨k, hk, rfl, hid⟩ := hrel
    have fin : Hid (∀ (m : Nat) (v' : Value) (w' : World), m = tlI xs n → w'.ownsRow w.heap.size 3 1 v' (0 + m) (([] ++ xs.take m).map (Value.int .i64)) → w.grownBy w' none → Ints w' v' (trimI xs) ∧ Below w.heap.size w w') := by
      rintro m v' w' rfl hown hg
      refine ⟨?_, (Below.refl _ _).grown hg (Nat.le_refl _) (fun j hj => by cases hj)⟩
      have e : trimI xs = xs.take (tlI xs n) := by unfold trimI; rw [HN.out]
      rw [e]
      exact Ints.of_own (by simpa using hown)
    have ca' : Hid (A = none → n = 0) := fun e => by
      rcases Nat.eq_zero_or_pos n with h | h
      · exact h
      · obtain ⟨ad, e2, _⟩ := HA.out (by rw [HN.out]; exact h)
        rw [e] at e2; cases e2
    by_cases hk0 : k = 0
    · subst hk0
      have HK : Hid (0 = tlI xs n) := hid.out.symm
      rcases A with _ | ad
      · go_wp2_with (at_builtin; refine wpList_append_read rfl _ _ _ rfl w.heap.size 3 i0 _ Try.underlying24 hi hz0 hz1 hz2 rfl (.slice none 0 0) 0 [] rfl (World.ownsRow_nil _ _ _ _) none 0 _ (xs.take 0) rfl (by simp) (HA.out.take _) (by omega) (Nat.le_refl _) ?_; intro v1 w1 hown hg hat)
        go_ret
        exact ⟨v1, rfl, fin.out 0 v1 w1 HK.out hown hg⟩
      · go_wp2_with (at_builtin; refine wpList_append_read rfl _ _ _ rfl w.heap.size 3 i0 _ Try.underlying24 hi hz0 hz1 hz2 rfl (.slice none 0 0) 0 [] rfl (World.ownsRow_nil _ _ _ _) (some ad) 0 _ (xs.take 0) rfl (by simp) (HA.out.take _) (by omega) (Nat.le_refl _) ?_; intro v1 w1 hown hg hat)
        go_ret
        exact ⟨v1, rfl, fin.out 0 v1 w1 HK.out hown hg⟩
    · obtain ⟨m, rfl⟩ : ∃ m, k = m + 1 := ⟨k - 1, by omega⟩
      obtain ⟨ad, rfl, -, hc⟩ := HA.out (by rw [HN.out]; omega)
      have hx1 := hc m (by rw [HN.out]; omega)
      clear hc
      have hst : tlI xs (m + 1) = if xs.getD m 0 = 0 then tlI xs m else m + 1 := rfl
      have Hst := Lib.hid hst
      clear hst
      generalize hx : xs.getD m 0 = x at *
      clear hx
      by_cases h0 : x = 0
      · subst h0
        have HK : Hid (tlI xs n = tlI xs m) := hid.out.trans (by rw [Hst.out, if_pos rfl])
        go_wp2
        exact ⟨⟨m, by omega, by go_num, HK.out⟩, by simp [intOf]⟩
      · have HK : Hid (m + 1 = tlI xs n) := (hid.out.trans (by rw [Hst.out, if_neg h0])).symm
        have z1 : (x == 0) = false := by rw [beq_eq_false_iff_ne]; exact h0
        clear h0
        go_wp2_with (at_builtin; refine wpList_append_read rfl _ _ _ rfl w.heap.size 3 i0 _ Try.underlying24 hi hz0 hz1 hz2 rfl (.slice none 0 0) 0 [] rfl (World.ownsRow_nil _ _ _ _) (some ad) (m + 1) _ (xs.take (m + 1)) rfl (by rw [List.length_take, HN.out]; omega) (HA.out.take _) (by omega) (Nat.le_refl _) ?_; intro v1 w1 hown hg hat)
        go_ret
        exact ⟨v1, rfl, fin.out _ v1 w1 HK.out hown hg⟩
set_option maxHeartbeats 800000 in
theorem rTrim_any (xs : List Int) (A : Option Addr) (ca : Nat) (w : World) (h1 : xs.length * 8 ≤ 140737488355328) (hca : xs.length ≤ ca) (ha : RD w A xs) :
    Calls Try.prog 47 #[.slice A xs.length ca] w fun e w' => ∃ v, e = .returned v ∧ Ints w' v (trimI xs) ∧ Below w.heap.size w w' := by
  obtain ⟨i0, hi, hz0, hz1, hz2⟩ := info_parts intInfo
  have HA := Lib.hid ha
  clear ha
  generalize hn : xs.length = n at *
  have HN := Lib.hid hn
  clear hn
  go_enter Try.func47, Try.ntmps47
  go_wp2
  go_loop [3] (fun i => ∃ k : Nat, k ≤ n ∧ i = .int .i64 k ∧ Hid (tlI xs n = tlI xs k)) (fun i => (intOf i).toNat)
  case atStart => exact ⟨n, Nat.le_refl _, rfl, rfl⟩
  case round =>
    obtain ⟨k, hk, rfl, hid⟩ := hrel
    have fin : Hid (∀ (m : Nat) (v' : Value) (w' : World), m = tlI xs n → w'.ownsRow w.heap.size 3 1 v' (0 + m) (([] ++ xs.take m).map (Value.int .i64)) → (w.alloc (.cells #[] 3)).grownBy w' (some w.heap.size) → Ints w' v' (trimI xs) ∧ Below w.heap.size w w') := by
      rintro m v' w' rfl hown hg
      refine ⟨?_, ((Below.refl _ _).alloc (Nat.le_refl _) _).grown hg (by simp) (fun j hj => by cases hj; exact Nat.le_refl _)⟩
      have e : trimI xs = xs.take (tlI xs n) := by unfold trimI; rw [HN.out]
      rw [e]
      exact Ints.of_own (by simpa using hown)
    have ca' : Hid (A = none → n = 0) := fun e => by
      rcases Nat.eq_zero_or_pos n with h | h
      · exact h
      · obtain ⟨ad, e2, _⟩ := HA.out (by rw [HN.out]; exact h)
        rw [e] at e2; cases e2
    by_cases hk0 : k = 0
    · subst hk0
      have HK : Hid (0 = tlI xs n) := hid.out.symm
      rcases A with _ | ad
      · go_wp2_with (at_builtin; refine wpList_append_read rfl _ _ _ rfl w.heap.size 3 i0 _ Try.underlying24 hi hz0 hz1 hz2 rfl (.slice (some ⟨w.heap.size, 0, none⟩) 0 0) 0 [] rfl (World.ownsRow_made w #[] 0 (Nat.le_refl _) (by simp [maxLen]) rfl) none 0 _ (xs.take 0) rfl (by simp) ((HA.out.take _).alloc _) (by omega) (by simp) ?_; intro v1 w1 hown hg hat)
        go_ret
        exact ⟨v1, rfl, fin.out 0 v1 w1 HK.out hown hg⟩
      · go_wp2_with (at_builtin; refine wpList_append_read rfl _ _ _ rfl w.heap.size 3 i0 _ Try.underlying24 hi hz0 hz1 hz2 rfl (.slice (some ⟨w.heap.size, 0, none⟩) 0 0) 0 [] rfl (World.ownsRow_made w #[] 0 (Nat.le_refl _) (by simp [maxLen]) rfl) (some ad) 0 _ (xs.take 0) rfl (by simp) ((HA.out.take _).alloc _) (by omega) (by simp) ?_; intro v1 w1 hown hg hat)
        go_ret
        exact ⟨v1, rfl, fin.out 0 v1 w1 HK.out hown hg⟩
    · obtain ⟨m, rfl⟩ : ∃ m, k = m + 1 := ⟨k - 1, by omega⟩
      obtain ⟨ad, rfl, -, hc⟩ := HA.out (by rw [HN.out]; omega)
      have hx1 := hc m (by rw [HN.out]; omega)
      clear hc
      have hst : tlI xs (m + 1) = if xs.getD m 0 = 0 then tlI xs m else m + 1 := rfl
      have Hst := Lib.hid hst
      clear hst
      generalize hx : xs.getD m 0 = x at *
      clear hx
      by_cases h0 : x = 0
      · subst h0
        have HK : Hid (tlI xs n = tlI xs m) := hid.out.trans (by rw [Hst.out, if_pos rfl])
        go_wp2
        exact ⟨⟨m, by omega, by go_num, HK.out⟩, by simp [intOf]⟩
      · have HK : Hid (m + 1 = tlI xs n) := (hid.out.trans (by rw [Hst.out, if_neg h0])).symm
        have z1 : (x == 0) = false := by rw [beq_eq_false_iff_ne]; exact h0
        clear h0
        go_wp2_with (at_builtin; refine wpList_append_read rfl _ _ _ rfl w.heap.size 3 i0 _ Try.underlying24 hi hz0 hz1 hz2 rfl (.slice (some ⟨w.heap.size, 0, none⟩) 0 0) 0 [] rfl (World.ownsRow_made w #[] 0 (Nat.le_refl _) (by simp [maxLen]) rfl) (some ad) (m + 1) _ (xs.take (m + 1)) rfl (by rw [List.length_take, HN.out]; omega) ((HA.out.take _).alloc _) (by omega) (by simp) ?_; intro v1 w1 hown hg hat)
        go_ret
        exact ⟨v1, rfl, fin.out _ v1 w1 HK.out hown hg⟩
end Go.Proofs.Ythpcneeidhmdkaa
