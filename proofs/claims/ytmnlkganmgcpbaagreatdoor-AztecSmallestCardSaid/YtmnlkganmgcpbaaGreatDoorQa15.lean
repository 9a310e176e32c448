import Derived.Test.YtmnlkganmgcpbaaGreatDoorQa14
import Derived.Test.YtmnlkganmgcpbaaGreatDoorQa3
import Derived.Test.YtmnlkganmgcpbaaGreatDoorQa7
import Derived.Deep.QuietTactic
import Derived.BigQuiet
namespace Go.Proofs.YtmnlkganmgcpbaaGreatDoor
set_option linter.unusedVariables false
section
variable {c s p : Nat} (h : VF c s p)
include h
theorem fpowN_lt (a n : Nat) : fpowN s p a n < s := by
  cases n with
  | zero => have := h.two_le; show 1 < s; omega
  | succ n => exact fmul_lt h _ _
theorem one_mulN (a : Nat) (ha : a < s) : fmulN s p 1 a = a := by
  letI := fldOf h
  let x : El s := ⟨a, ha⟩
  show ((1 : El s) * x).val = x.val
  rw [fone_mul]
theorem mul_oneN (a : Nat) (ha : a < s) : fmulN s p a 1 = a := by
  letI := fldOf h
  let x : El s := ⟨a, ha⟩
  show (x * (1 : El s)).val = x.val
  rw [fmul_one]
end
end Go.Proofs.YtmnlkganmgcpbaaGreatDoor
namespace Go.Proofs.YtmnlkganmgcpbaaGreatDoor
set_option linter.unusedVariables false
def OrdN (s p a k : Nat) : Prop := 1 ≤ k ∧ fpowN s p a k = 1 ∧ ∀ m, 1 ≤ m → m < k → fpowN s p a m ≠ 1
theorem OrdN.unique {s p a k l : Nat} (h : OrdN s p a k) (g : OrdN s p a l) : k = l := by
  by_cases h1 : k < l
  · exact absurd h.2.1 (g.2.2 k h.1 h1)
  · by_cases h2 : l < k
    · exact absurd g.2.1 (h.2.2 l g.1 h2)
    · omega
section
variable {c s p : Nat} (h : VF c s p)
include h
theorem fpowN_one_iff (x : El s) (n : Nat) : fpowN s p x.val n = 1 ↔ (letI := fldOf h; x ^ n = (1 : El s)) := by
  rw [fpowN_val h]
  constructor
  · intro e; exact El.ext e
  · intro e; exact congrArg El.val e
theorem ordN_iff (x : El s) (k : Nat) : OrdN s p x.val k ↔ (letI := fldOf h; IsOrd x k) := by
  letI := fldOf h
  constructor
  · rintro ⟨h1, h2, h3⟩
    exact ⟨h1, (fpowN_one_iff h x k).1 h2, fun m hm hlt e => h3 m hm hlt ((fpowN_one_iff h x m).2 e)⟩
  · rintro ⟨h1, h2, h3⟩
    exact ⟨h1, (fpowN_one_iff h x k).2 h2, fun m hm hlt e => h3 m hm hlt ((fpowN_one_iff h x m).1 e)⟩
theorem el_ne_zero (x : El s) : (letI := fldOf h; x ≠ (0 : El s)) ↔ x.val ≠ 0 := by
  letI := fldOf h
  constructor
  · intro e e2; exact e (El.ext e2)
  · intro e e2; exact e (congrArg El.val e2)
theorem ordN_exists (a : Nat) (ha : a < s) (h0 : a ≠ 0) : ∃ k, OrdN s p a k ∧ k ≤ s - 1 := by
  letI := fldOf h
  let x : El s := ⟨a, ha⟩
  obtain ⟨k, hk⟩ := isOrd_exists ((el_ne_zero h x).2 h0)
  have := hk.le
  rw [card_fldOf h] at this
  exact ⟨k, (ordN_iff h x k).2 hk, this⟩
def GenN (s p g : Nat) : Prop := 1 ≤ g ∧ g < s ∧ OrdN s p g (s - 1) ∧ ∀ x, 1 ≤ x → x < g → ¬ OrdN s p x (s - 1)
theorem genN_exists : ∃ g, GenN s p g := by
  letI := fldOf h
  obtain ⟨x, hx⟩ := cyclic (K := El s)
  rw [card_fldOf h] at hx
  have hx0 := (el_ne_zero h x).1 hx.ne
  obtain ⟨g, ⟨h1, h2, h3⟩, h4⟩ := exists_least (P := fun g => 1 ≤ g ∧ g < s ∧ OrdN s p g (s - 1)) ⟨x.val, by omega, x.lt, (ordN_iff h x _).2 hx⟩
  exact ⟨g, h1, h2, h3, fun y hy hlt ho => h4 y hlt ⟨hy, by omega, ho⟩⟩
end
noncomputable def ordF (s p a : Nat) : Nat := @dite Nat (∃ k, OrdN s p a k) (Classical.propDecidable _) (fun h => Classical.choose h) (fun _ => 0)
theorem ordF_of {s p a k : Nat} (h : OrdN s p a k) : ordF s p a = k := by
  have hx : ∃ k, OrdN s p a k := ⟨k, h⟩
  unfold ordF
  rw [dif_pos hx]
  exact (Classical.choose_spec hx).unique h
theorem ordF_spec {c s p a : Nat} (h : VF c s p) (ha : a < s) (h0 : a ≠ 0) : OrdN s p a (ordF s p a) ∧ ordF s p a ≤ s - 1 := by
  obtain ⟨k, hk, hle⟩ := ordN_exists h a ha h0
  rw [ordF_of hk]; exact ⟨hk, hle⟩
noncomputable def genF (s p : Nat) : Nat := @dite Nat (∃ k, GenN s p k) (Classical.propDecidable _) (fun h => Classical.choose h) (fun _ => 0)
theorem genF_spec {c s p : Nat} (h : VF c s p) : GenN s p (genF s p) := by
  have hx := genN_exists h
  unfold genF
  rw [dif_pos hx]
  exact Classical.choose_spec hx
theorem gen_inj {c s p : Nat} (h : VF c s p) {i j : Nat} (hi : i < s - 1) (hj : j < s - 1) (e : fpowN s p (genF s p) i = fpowN s p (genF s p) j) : i = j := by
  have hg := genF_spec h
  letI := fldOf h
  let x : El s := ⟨genF s p, hg.2.1⟩
  have hx : IsOrd x (s - 1) := (ordN_iff h x _).1 hg.2.2.1
  refine hx.inj hi hj ?_
  have e2 : (x ^ i).val = (x ^ j).val := by rw [← fpowN_val h, ← fpowN_val h]; exact e
  exact El.ext e2
theorem gen_surj {c s p : Nat} (h : VF c s p) {a : Nat} (ha : a < s) (h0 : a ≠ 0) : ∃ j, j < s - 1 ∧ fpowN s p (genF s p) j = a := by
  have hg := genF_spec h
  letI := fldOf h
  let x : El s := ⟨genF s p, hg.2.1⟩
  have hx : IsOrd x (s - 1) := (ordN_iff h x _).1 hg.2.2.1
  let l : List (El s) := (List.range (s - 1)).map fun j => x ^ j
  have hn : l.Nodup := nodup_map (fun i hi j hj e => hx.inj (List.mem_range.1 hi) (List.mem_range.1 hj) e) List.nodup_range
  have hsub : ∀ y ∈ l, y ∈ units (El s) := by
    intro y hy
    obtain ⟨j, _, rfl⟩ := List.mem_map.1 hy
    exact mem_units.2 (fpow_ne hx.ne j)
  have hlen : (units (El s)).length ≤ l.length := by
    have h1 := units_length (K := El s)
    rw [card_fldOf h] at h1
    simp [l]; omega
  have hp := perm_of_subset hn hsub hlen
  let y : El s := ⟨a, ha⟩
  have hy : y ∈ l := hp.mem_iff.2 (mem_units.2 ((el_ne_zero h y).2 h0))
  obtain ⟨j, hj, e⟩ := List.mem_map.1 hy
  exact ⟨j, List.mem_range.1 hj, by rw [show genF s p = x.val from rfl, fpowN_val h]; exact congrArg El.val e⟩
noncomputable def logF (s p a : Nat) : Nat := @dite Nat (∃ j, j < s - 1 ∧ fpowN s p (genF s p) j = a) (Classical.propDecidable _) (fun h => Classical.choose h) (fun _ => 0)
theorem logF_spec {c s p a : Nat} (h : VF c s p) (ha : a < s) (h0 : a ≠ 0) : logF s p a < s - 1 ∧ fpowN s p (genF s p) (logF s p a) = a := by
  have hx := gen_surj h ha h0
  unfold logF
  rw [dif_pos hx]
  exact Classical.choose_spec hx
theorem logF_of {c s p a j : Nat} (h : VF c s p) (ha : a < s) (h0 : a ≠ 0) (hj : j < s - 1) (e : fpowN s p (genF s p) j = a) : logF s p a = j := by
  have hx := logF_spec h ha h0
  exact gen_inj h hx.1 hj (hx.2.trans e.symm)
end Go.Proofs.YtmnlkganmgcpbaaGreatDoor
namespace Go.Proofs.YtmnlkganmgcpbaaGreatDoor
set_option linter.unusedVariables false
def fsubN (s p a b : Nat) : Nat := if p = 0 then (a + s - b) % s else a ^^^ b
def finvN (s p a : Nat) : Nat := fpowN s p a (s - 2)
section
variable {c s p : Nat} (h : VF c s p)
include h
theorem fsubN_val (x y : El s) : fsubN s p x.val y.val = (letI := fldOf h; (x - y : El s).val) := by
  show fsubN s p x.val y.val = faddN s p x.val (fnegN s p y.val)
  unfold fsubN faddN fnegN
  split
  · rw [Nat.add_mod_mod]
    have := y.lt
    rw [show x.val + s - y.val = x.val + (s - y.val) from by omega]
  · rfl
theorem addN_comm {x y : Nat} (hx : x < s) (hy : y < s) : faddN s p x y = faddN s p y x := by
  letI := fldOf h
  exact congrArg El.val (fadd_comm (⟨x, hx⟩ : El s) ⟨y, hy⟩)
theorem addN_zero {x : Nat} (hx : x < s) : faddN s p x 0 = x := by
  letI := fldOf h
  exact congrArg El.val (fadd_zero (⟨x, hx⟩ : El s))
theorem mulN_assoc {x y z : Nat} (hx : x < s) (hy : y < s) (hz : z < s) : fmulN s p (fmulN s p x y) z = fmulN s p x (fmulN s p y z) := by
  letI := fldOf h
  exact congrArg El.val (fmul_assoc (⟨x, hx⟩ : El s) ⟨y, hy⟩ ⟨z, hz⟩)
theorem mulN_comm {x y : Nat} (hx : x < s) (hy : y < s) : fmulN s p x y = fmulN s p y x := by
  letI := fldOf h
  exact congrArg El.val (fmul_comm (⟨x, hx⟩ : El s) ⟨y, hy⟩)
theorem mulN_zero {x : Nat} (hx : x < s) : fmulN s p x 0 = 0 := by
  letI := fldOf h
  exact congrArg El.val (fmul_zero (⟨x, hx⟩ : El s))
theorem subN_lt {x y : Nat} (hx : x < s) (hy : y < s) : fsubN s p x y < s := by
  letI := fldOf h
  have e : fsubN s p x y = _ := fsubN_val h ⟨x, hx⟩ ⟨y, hy⟩
  rw [e]; exact El.lt _
theorem invN_lt {x : Nat} : finvN s p x < s := fpowN_lt h _ _
theorem mulN_inv {x : Nat} (hx : x < s) (h0 : x ≠ 0) : fmulN s p x (finvN s p x) = 1 := by
  letI := fldOf h
  let a : El s := ⟨x, hx⟩
  have hc : card (El s) = s := card_fldOf h
  have e : finvN s p x = (finv a).val := by
    show fpowN s p a.val (s - 2) = (a ^ (card (El s) - 2)).val
    rw [hc]; exact fpowN_val h a _
  rw [e]
  exact congrArg El.val (fmul_inv ((el_ne_zero h a).2 h0))
theorem powN_mod {x k : Nat} (hx : x < s) (hk : fpowN s p x k = 1) (n : Nat) : fpowN s p x n = fpowN s p x (n % k) := by
  letI := fldOf h
  let a : El s := ⟨x, hx⟩
  have e1 : a ^ k = 1 := (fpowN_one_iff h a k).1 hk
  have e2 := fpow_mod e1 n
  rw [show x = a.val from rfl, fpowN_val h a n, fpowN_val h a (n % k)]
  exact congrArg El.val e2
theorem powN_fermat {x : Nat} (hx : x < s) (h0 : x ≠ 0) : fpowN s p x (s - 1) = 1 := by
  letI := fldOf h
  let a : El s := ⟨x, hx⟩
  have hc : card (El s) = s := card_fldOf h
  refine (fpowN_one_iff h a _).2 ?_
  have := fermat ((el_ne_zero h a).2 h0)
  rw [hc] at this; exact this
theorem powN_add {x : Nat} (hx : x < s) (m n : Nat) : fpowN s p x (m + n) = fmulN s p (fpowN s p x m) (fpowN s p x n) := by
  letI := fldOf h
  let a : El s := ⟨x, hx⟩
  have := congrArg El.val (fpow_add a m n)
  rw [← fpowN_val] at this
  rw [show x = a.val from rfl, this, fpowN_val h a m, fpowN_val h a n]; rfl
theorem powN_lt {x : Nat} (n : Nat) : fpowN s p x n < s := fpowN_lt h _ _
end
end Go.Proofs.YtmnlkganmgcpbaaGreatDoor
namespace Go.Proofs.YtmnlkganmgcpbaaGreatDoor
set_option linter.unusedVariables false
set_option linter.unusedSectionVars false
noncomputable def expT (s p : Nat) : List Nat := (List.range (s - 1)).map (fpowN s p (genF s p))
noncomputable def logT (s p n : Nat) : List Nat := (List.range s).map fun x => if x = 0 then 0 else if logF s p x < n then logF s p x else 0
noncomputable def expTn (s p n : Nat) : List Nat := (List.range (s - 1)).map fun i => if i < n then fpowN s p (genF s p) i else 0
theorem getD_map_range (f : Nat → Nat) (n i : Nat) (hi : i < n) : ((List.range n).map f).getD i 0 = f i := by
  simp [List.getD, hi]
theorem set_map_range (f : Nat → Nat) (n i v : Nat) (hi : i < n) : ((List.range n).map f).set i v = (List.range n).map (fun k => if k = i then v else f k) := by
  apply List.ext_getElem
  · simp
  · intro k h1 h2
    simp only [List.getElem_set, List.getElem_map, List.getElem_range]
    by_cases h : i = k
    · subst h; simp
    · rw [if_neg h, if_neg (fun e => h e.symm)]
section
variable {c s p : Nat} (h : VF c s p)
include h
theorem gen_lt : genF s p < s := (genF_spec h).2.1
theorem gen_ne : genF s p ≠ 0 := by have := (genF_spec h).1; omega
theorem gen_pow_ne (n : Nat) : fpowN s p (genF s p) n ≠ 0 := by
  letI := fldOf h
  let a : El s := ⟨genF s p, gen_lt h⟩
  have : a ^ n ≠ 0 := fpow_ne ((el_ne_zero h a).2 (gen_ne h)) n
  intro e
  apply this
  apply El.ext
  rw [← fpowN_val h a n]
  exact e
theorem logF_gen {n : Nat} (hn : n < s - 1) : logF s p (fpowN s p (genF s p) n) = n :=
  logF_of h (powN_lt h n) (gen_pow_ne h n) hn rfl
theorem expTn_set {n : Nat} (hn : n < s - 1) : (expTn s p n).set n (fpowN s p (genF s p) n) = expTn s p (n + 1) := by
  unfold expTn
  rw [set_map_range _ _ _ _ hn]
  apply List.map_congr_left
  intro k hk
  by_cases e : k = n
  · subst e; simp
  · rw [if_neg e]
    by_cases h1 : k < n
    · rw [if_pos h1, if_pos (by omega)]
    · rw [if_neg h1, if_neg (by omega)]
theorem logT_set {n : Nat} (hn : n < s - 1) : (logT s p n).set (fpowN s p (genF s p) n) n = logT s p (n + 1) := by
  unfold logT
  rw [set_map_range _ _ _ _ (powN_lt h n)]
  apply List.map_congr_left
  intro k hk
  have hks : k < s := List.mem_range.1 hk
  by_cases e : k = fpowN s p (genF s p) n
  · rw [if_pos e, e, if_neg (gen_pow_ne h n), logF_gen h hn, if_pos (by omega)]
  · rw [if_neg e]
    by_cases h0 : k = 0
    · rw [if_pos h0, if_pos h0]
    · rw [if_neg h0, if_neg h0]
      have hl : logF s p k ≠ n := by
        intro e2
        apply e
        have := (logF_spec h hks h0).2
        rw [e2] at this; exact this.symm
      by_cases h1 : logF s p k < n
      · rw [if_pos h1, if_pos (by omega)]
      · rw [if_neg h1, if_neg (by omega)]
theorem expTn_zero : expTn s p 0 = List.replicate (s - 1) 0 := by
  unfold expTn
  apply List.ext_getElem <;> simp
theorem logT_zero : logT s p 0 = List.replicate s 0 := by
  unfold logT
  apply List.ext_getElem <;> simp
theorem expTn_last : expTn s p (s - 1) = expT s p := by
  unfold expTn expT
  apply List.map_congr_left
  intro k hk
  rw [if_pos (List.mem_range.1 hk)]
theorem expT_get {i : Nat} (hi : i < s - 1) : (expT s p).getD i 0 = fpowN s p (genF s p) i := getD_map_range _ _ _ hi
theorem logT_get {x : Nat} (hx : x < s) (h0 : x ≠ 0) : (logT s p (s - 1)).getD x 0 = logF s p x := by
  rw [show (logT s p (s - 1)).getD x 0 = _ from getD_map_range _ _ _ hx]
  rw [if_neg h0, if_pos (logF_spec h hx h0).1]
theorem tab_mul {x y : Nat} (hx : x < s) (hy : y < s) (hx0 : x ≠ 0) (hy0 : y ≠ 0) : fpowN s p (genF s p) ((logF s p x + logF s p y) % (s - 1)) = fmulN s p x y := by
  rw [← powN_mod h (gen_lt h) (powN_fermat h (gen_lt h) (gen_ne h)), powN_add h (gen_lt h), (logF_spec h hx hx0).2, (logF_spec h hy hy0).2]
theorem tab_div {x y : Nat} (hx : x < s) (hy : y < s) (hx0 : x ≠ 0) (hy0 : y ≠ 0) : fpowN s p (genF s p) ((logF s p x + (s - 1) - logF s p y) % (s - 1)) = fmulN s p x (finvN s p y) := by
  have hf := powN_fermat h (gen_lt h) (gen_ne h)
  have a := logF_spec h hx hx0
  have b := logF_spec h hy hy0
  rw [← powN_mod h (gen_lt h) hf]
  generalize hk : logF s p x + (s - 1) - logF s p y = k
  have e1 : fmulN s p (fpowN s p (genF s p) k) y = x := by
    have : fpowN s p (genF s p) (k + logF s p y) = fpowN s p (genF s p) (logF s p x + (s - 1)) := by congr 1; omega
    rw [powN_add h (gen_lt h), powN_add h (gen_lt h), a.2, b.2, hf, mul_oneN h _ hx] at this
    exact this
  have e2 : fmulN s p (fmulN s p (fpowN s p (genF s p) k) y) (finvN s p y) = fmulN s p x (finvN s p y) := by rw [e1]
  rw [mulN_assoc h (powN_lt h k) hy (invN_lt h), mulN_inv h hy hy0, mul_oneN h _ (powN_lt h k)] at e2
  exact e2
theorem zero_addN {x : Nat} (hx : x < s) : faddN s p 0 x = x := by rw [addN_comm h (by have := h.two_le; omega) hx, addN_zero h hx]
theorem zero_mulN {x : Nat} (hx : x < s) : fmulN s p 0 x = 0 := by rw [mulN_comm h (by have := h.two_le; omega) hx, mulN_zero h hx]
end
def tl (l : List Nat) : Nat → Nat
  | 0 => 0
  | n + 1 => if l.getD n 0 = 0 then tl l n else n + 1
theorem tl_le (l : List Nat) (n : Nat) : tl l n ≤ n := by
  induction n with
  | zero => exact Nat.le_refl _
  | succ n ih => unfold tl; split <;> omega
theorem tl_zero (l : List Nat) (n i : Nat) (h1 : tl l n ≤ i) (h2 : i < n) : l.getD i 0 = 0 := by
  induction n with
  | zero => omega
  | succ n ih =>
    unfold tl at h1
    split at h1
    · rename_i h0
      by_cases e : i = n
      · rw [e]; exact h0
      · exact ih h1 (by omega)
    · omega
theorem tl_last (l : List Nat) (n : Nat) (h : tl l n ≠ 0) : l.getD (tl l n - 1) 0 ≠ 0 := by
  induction n with
  | zero => exact absurd rfl h
  | succ n ih =>
    unfold tl at h ⊢
    split
    · rename_i h0
      rw [if_pos h0] at h
      exact ih h
    · rename_i h0
      simpa using h0
def trimL (l : List Nat) : List Nat := l.take (tl l l.length)
def Trimmed (l : List Nat) : Prop := l = [] ∨ l.getD (l.length - 1) 0 ≠ 0
theorem trimL_length (l : List Nat) : (trimL l).length = tl l l.length := by
  unfold trimL; rw [List.length_take]; have := tl_le l l.length; omega
theorem getD_take (l : List Nat) (n i : Nat) : (l.take n).getD i 0 = if i < n then l.getD i 0 else 0 := by
  simp only [List.getD, List.getElem?_take]
  split <;> simp
theorem trimL_getD (l : List Nat) (i : Nat) : (trimL l).getD i 0 = l.getD i 0 := by
  unfold trimL
  rw [getD_take]
  split
  · rfl
  · rename_i h1
    by_cases h2 : i < l.length
    · exact (tl_zero l _ i (by omega) h2).symm
    · rw [List.getD, List.getElem?_eq_none (by omega)]; rfl
theorem trimL_trimmed (l : List Nat) : Trimmed (trimL l) := by
  by_cases h : tl l l.length = 0
  · left; unfold trimL; rw [h]; rfl
  · right
    rw [trimL_getD, trimL_length]
    exact tl_last l _ h
def LtAll (s : Nat) (l : List Nat) : Prop := ∀ i, l.getD i 0 < s
section
variable {c s p : Nat} (h : VF c s p)
include h
end
end Go.Proofs.YtmnlkganmgcpbaaGreatDoor
namespace Go.Proofs.YtmnlkganmgcpbaaGreatDoor
open Go.RowKit
theorem ret_int {k : IntKind} {a b : Int} (h : a = b) : Ending.returned (.int k a) = .returned (.int k b) := by rw [h]
theorem ret_bool {a b : Bool} (h : a = b) : Ending.returned (.bool a) = .returned (.bool b) := by rw [h]
theorem bl40 (P : Nat) (h : bl P ≤ 40) : P < 2 ^ 40 := (bl_le_iff _ _).1 h
theorem step_val (P q : Nat) (hP : bl P ≤ 40) (hq0 : 0 < q) (hlt : bl q ≤ bl P) :
    bits BinOp.xor IntKind.i64 (↑P) (wrap64 (↑q * 2 ^ (bl P - 1 - (bl q - 1)))) = ((cstep P q : Nat) : Int) := by
  have h0 := bl_pos q (by omega)
  rw [show bl P - 1 - (bl q - 1) = bl P - bl q from by omega]
  have h1 := bl_shift q (bl P - bl q) (by omega)
  have h2 := bl40 (q * 2 ^ (bl P - bl q)) (by omega)
  have h3 := bl40 P hP
  rw [show ((q : Int) * 2 ^ (bl P - bl q)) = ((q * 2 ^ (bl P - bl q) : Nat) : Int) from by simp]
  rw [IntWalk.wrap64_in _ (by omega), i64_xor_nat _ _ (by omega) (by omega)]
  rfl
theorem cmod_cstep (P q : Nat) (hq0 : 0 < q) : cmod (cstep P q) q = cmod P q := by
  refine (cmod_unique _ _ _ ?_ (cmod_lt _ _ (by omega))).symm
  have h1 := cmod_dvd P q
  have h2 := cdvd_xor h1 (⟨2 ^ (bl P - bl q), (cmul_pow q _).symm⟩ : cdvd q (q * 2 ^ (bl P - bl q)))
  rw [show P ^^^ cmod P q ^^^ q * 2 ^ (bl P - bl q) = (P ^^^ q * 2 ^ (bl P - bl q)) ^^^ cmod P q from by ac_rfl] at h2
  exact h2
set_option maxHeartbeats 400000 in
theorem rem_nat (p q : Nat) (w : World) (hp : p < 2 ^ 40) (hq0 : 0 < q) (hq : q < 2 ^ 40) :
    Calls Tryz.prog 220 #[.int .i64 p, .int .i64 q] w fun e w' => e = .returned (.int .i64 (cmod p q)) ∧ w = w' := by
  have hpb : bl p ≤ 40 := (bl_le_iff _ _).2 hp
  have hqb : bl q ≤ 40 := (bl_le_iff _ _).2 hq
  have hqp : 0 < bl q := bl_pos q (by omega)
  have hpI : (p : Int) ≤ 9223372036854775807 := by omega
  have hqI : (q : Int) ≤ 9223372036854775807 := by omega
  go_enter Tryz.func220, Tryz.ntmps220
  go_wp2_with fail
  go_loop [0] (fun t => ∃ P : Nat, bl P ≤ 40 ∧ t = .int .i64 P ∧ Hid (cmod P q = cmod p q)) (fun t => bl (intOf t).toNat)
  case atStart => exact ⟨p, hpb, rfl, rfl⟩
  case round =>
    obtain ⟨P, hP, rfl, hid⟩ := hrel
    have hPI : (P : Int) ≤ 9223372036854775807 := by
      have := bl40 P hP; omega
    by_cases hlt : bl q ≤ bl P
    · have hlt2 := cstep_lt P q (by omega) hlt
      go_wp2_with (go_at_call 188; refine (degree_any _ _ (by omega) (by omega)).mono ?_; rintro e w' ⟨rfl, rfl⟩)
      rw [step_val P q hP hq0 hlt]
      refine ⟨⟨cstep P q, by omega, rfl, ?_⟩, hlt2⟩
      show cmod _ _ = _
      rw [cmod_cstep P q hq0]; exact hid.out
    · go_wp2_with (go_at_call 188; refine (degree_any _ _ (by omega) (by omega)).mono ?_; rintro e w' ⟨rfl, rfl⟩)
      go_ret
      exact ⟨ret_int (by rw [← hid.out, cmod_small P q (by omega)]), rfl⟩
theorem rem_any (p q : Int) (w : World) (hp0 : 0 ≤ p) (hp : p < 1099511627776) (hq0 : 0 < q) (hq : q < 1099511627776) :
    Calls Tryz.prog 220 #[.int .i64 p, .int .i64 q] w fun e w' => e = .returned (.int .i64 (cmod p.toNat q.toNat)) ∧ w = w' := by
  obtain ⟨P, rfl⟩ := Int.eq_ofNat_of_zero_le hp0
  obtain ⟨Q, rfl⟩ := Int.eq_ofNat_of_zero_le (Int.le_of_lt hq0)
  exact rem_nat P Q w (by omega) (by omega) (by omega)
theorem bl_succ_le (q : Nat) : bl (q + 1) ≤ bl q + 1 := by
  have := lt_pow_bl q
  exact (bl_le_iff _ _).2 (by rw [Nat.pow_succ]; have := Nat.two_pow_pos (bl q); omega)
set_option maxRecDepth 100000 in
set_option maxHeartbeats 400000 in
theorem irr_nat (p : Nat) (w : World) (hp0 : 0 < p) (hp : bl p ≤ 13) :
    Calls Tryz.prog 189 #[.int .i64 p] w fun e w' => e = .returned (.bool (irrB p)) ∧ w = w' := by
  have hp40 : p < 2 ^ 13 := (bl_le_iff _ _).1 hp
  have hpp := bl_pos p (by omega)
  have hpI : (p : Int) ≤ 9223372036854775807 := by omega
  have hpI2 : (p : Int) < 1099511627776 := by omega
  go_enter Tryz.func189, Tryz.ntmps189
  go_wp2_with fail
  go_loop [3] (fun t => ∃ q : Nat, 2 ≤ q ∧ bl q ≤ 8 ∧ t = .int .i64 q ∧ Hid (∀ r, 2 ≤ r → r < q → cmod p r ≠ 0)) (fun t => 300 - (intOf t).toNat)
  case atStart => exact ⟨2, by omega, by decide, rfl, fun r h1 h2 => by omega⟩
  case round =>
    obtain ⟨q, hq2, hq, rfl, hid⟩ := hrel
    have hqI : q < 2 ^ 8 := (bl_le_iff _ _).1 hq
    have hqI2 : (q : Int) < 256 := by omega
    have hqb : 2 ≤ bl q := by
      have := bl_mono 2 q hq2; have e : bl 2 = 2 := by decide
      omega
    by_cases hlt : 2 * ((bl q : Int) - 1) ≤ (bl p : Int) - 1
    · by_cases hz : cmod p q = 0
      · have hz2 : (((cmod p q : Nat) : Int) == 0) = true := by rw [hz]; rfl
        have hz3 := Lib.hid hz; clear hz
        have hI : irrB p = false := by
          rw [Bool.eq_false_iff]; intro h; exact (irrB_iff p).1 h q hq2 (by omega) hz3.out
        have HI := Lib.hid hI; clear hI
        go_wp2_with (first | (go_at_call 188; refine (degree_any _ _ (by omega) (by omega)).mono ?_; rintro e w' ⟨rfl, rfl⟩) | (go_at_call 220; refine (rem_any _ _ _ (by omega) (by omega) (by omega) (by omega)).mono ?_; rintro e w' ⟨rfl, rfl⟩))
        go_ret
        exact ⟨ret_bool HI.out.symm, rfl⟩
      · have hz2 : (((cmod p q : Nat) : Int) == 0) = false := by simpa using hz
        have hb2 := bl_succ_le q
        go_wp2_with (first | (go_at_call 188; refine (degree_any _ _ (by omega) (by omega)).mono ?_; rintro e w' ⟨rfl, rfl⟩) | (go_at_call 220; refine (rem_any _ _ _ (by omega) (by omega) (by omega) (by omega)).mono ?_; rintro e w' ⟨rfl, rfl⟩))
        refine ⟨⟨q + 1, by omega, by omega, by go_num, ?_⟩, by simp [intOf]; omega⟩
        intro r h1 h2
        by_cases h3 : r = q
        · subst h3; exact hz
        · exact hid.out r h1 (by omega)
    · have hI : irrB p = true := by
        rw [irrB_iff]; intro r h1 h2
        refine hid.out r h1 ?_
        have : bl r < bl q := by omega
        exact lt_of_bl_lt _ _ this
      have HI := Lib.hid hI; clear hI
      have hlt2 : bl p + 2 ≤ 2 * bl q := by omega
      clear hlt hid hqI hp40 hpI2
      go_wp2_with (first | (go_at_call 188; refine (degree_any _ _ (by omega) (by omega)).mono ?_; rintro e w' ⟨rfl, rfl⟩))
      go_ret
      exact ⟨ret_bool HI.out.symm, rfl⟩
theorem irr_any (p : Int) (w : World) (hp0 : 0 < p) (hp : bl p.toNat ≤ 13) :
    Calls Tryz.prog 189 #[.int .i64 p] w fun e w' => e = .returned (.bool (irrB p.toNat)) ∧ w = w' := by
  obtain ⟨P, rfl⟩ := Int.eq_ofNat_of_zero_le (Int.le_of_lt hp0)
  exact irr_nat P w (by omega) hp
set_option maxHeartbeats 400000 in
theorem prime_nat (n : Nat) (w : World) (hn : 2 ≤ n) (hn2 : n ≤ 4096) :
    Calls Tryz.prog 187 #[.int .i64 n] w fun e w' => e = .returned (.bool (primeB n)) ∧ w = w' := by
  go_enter Tryz.func187, Tryz.ntmps187
  go_wp2_with fail
  go_loop [3] (fun t => ∃ d : Nat, 2 ≤ d ∧ d ≤ 65 ∧ t = .int .i64 d ∧ Hid (∀ r, 2 ≤ r → r < d → n % r ≠ 0)) (fun t => 100 - (intOf t).toNat)
  case atStart => exact ⟨2, by omega, by decide, rfl, fun r h1 h2 => by omega⟩
  case round =>
    obtain ⟨d, hd2, hd, rfl, hid⟩ := hrel
    have hdd : d * d ≤ 65 * 65 := Nat.mul_le_mul hd hd
    have hdd0 : (0 : Int) ≤ (d : Int) * d := by have : (0 : Int) ≤ ((d * d : Nat) : Int) := by omega
                                                simpa using this
    have hdd1 : (d : Int) * d ≤ 4225 := by have : ((d * d : Nat) : Int) ≤ 4225 := by omega
                                           simpa using this
    by_cases hlt : d * d ≤ n
    · have hlt2 : (d : Int) * d ≤ n := by have : ((d * d : Nat) : Int) ≤ n := by omega
                                          simpa using this
      have hd3 : d ≤ 64 := by
        rcases Nat.lt_or_ge d 65 with h | h
        · omega
        · have := Nat.mul_le_mul h h; omega
      clear hlt
      by_cases hz : n % d = 0
      · have hz2 : (((n : Int) % (d : Int)) == 0) = true := by
          have : ((n % d : Nat) : Int) = 0 := by omega
          simpa using this
        have hI : primeB n = false := by
          rw [Bool.eq_false_iff]; intro h
          have h4 : d * d ≤ n := by have : ((d * d : Nat) : Int) ≤ n := by simpa using hlt2
                                    omega
          exact ((primeB_iff n).1 h).2 d hd2 h4 hz
        have HI := Lib.hid hI; clear hI
        clear hz
        go_wp2
        go_ret
        exact ⟨ret_bool HI.out.symm, rfl⟩
      · have hz2 : (((n : Int) % (d : Int)) == 0) = false := by
          have : ((n % d : Nat) : Int) ≠ 0 := by omega
          simpa using this
        have HZ := Lib.hid hz; clear hz
        go_wp2
        refine ⟨⟨d + 1, by omega, by omega, by go_num, ?_⟩, by simp [intOf]; omega⟩
        intro r h1 h2
        by_cases h3 : r = d
        · subst h3; exact HZ.out
        · exact hid.out r h1 (by omega)
    · have hlt2 : ¬ (d : Int) * d ≤ n := by
        have : ¬ ((d * d : Nat) : Int) ≤ n := by omega
        simpa using this
      have hI : primeB n = true := by
        rw [primeB_iff]; refine ⟨hn, fun r h1 h2 => hid.out r h1 ?_⟩
        rcases Nat.lt_or_ge r d with h | h
        · exact h
        · have := Nat.mul_le_mul h h; omega
      have HI := Lib.hid hI; clear hI
      clear hlt
      go_wp2
      go_ret
      exact ⟨ret_bool HI.out.symm, rfl⟩
theorem prime_any (n : Int) (w : World) (hn : 2 ≤ n) (hn2 : n ≤ 4096) :
    Calls Tryz.prog 187 #[.int .i64 n] w fun e w' => e = .returned (.bool (primeB n.toNat)) ∧ w = w' := by
  obtain ⟨P, rfl⟩ := Int.eq_ofNat_of_zero_le (by omega : 0 ≤ n)
  exact prime_nat P w (by omega) (by omega)
end Go.Proofs.YtmnlkganmgcpbaaGreatDoor
namespace Go.Proofs.YtmnlkganmgcpbaaGreatDoor
open Go.RowKit
def rirrB (p d : Int) : Bool := decide (0 ≤ p) && decide ((bl p.toNat : Int) = d + 1) && irrB p.toNat
end Go.Proofs.YtmnlkganmgcpbaaGreatDoor
namespace Go.Proofs.YtmnlkganmgcpbaaGreatDoor
open Go.RowKit
theorem quietL {P : Program} {f : FuncId} {args : Array Value} {w : World} {n : Nat} {v : Value}
    (h : Calls P f args (w.drewN n) fun e w' => e = .returned v ∧ w.drewN n = w') :
    Calls P f args (w.drewN n) fun e w'' => e = .returned v ∧ ∃ m, w'' = w.drewN m :=
  h.mono fun _ _ hx => ⟨hx.1, n, hx.2.symm⟩
theorem below_drewN {B : Nat} {a w : World} (h : Below B a w) (n : Nat) : Below B a (w.drewN n) := ⟨h.os, h.tape, h.output, h.size, h.block⟩
def vldB (c s p : Int) : Bool :=
  if p = 0 then decide (2 < s) && decide (s ≤ 4096) && decide (c = s) && primeB s.toNat
  else decide (2 ≤ p) && decide (bl p.toNat ≤ 13) && decide (c = 2) && decide (s = ((2 ^ (bl p.toNat - 1) : Nat) : Int)) && irrB p.toNat
abbrev fldv (c s p : Int) : Value := .agg #[.int .i64 c, .int .i64 s, .int .i64 p]
set_option maxHeartbeats 400000 in
theorem valid_a1 (c s : Int) (w : World) (h : ¬ 2 < s) :
    Calls Tryz.prog 149 #[fldv c s 0] w fun e w' => e = .returned (.bool (vldB c s 0)) ∧ Below w.heap.size w w' := by
  have hI : vldB c s 0 = false := by unfold vldB; simp; omega
  have HI := Lib.hid hI; clear hI
  go_enter Tryz.func149, Tryz.ntmps149
  go_wp2
  go_ret
  exact ⟨ret_bool HI.out.symm, (Below.refl _ _).alloc (Nat.le_refl _) _⟩
set_option maxHeartbeats 400000 in
theorem valid_a4 (c s : Int) (w : World) (h : 2 < s) (h2 : s ≤ 4096) (h3 : c = s) :
    Calls Tryz.prog 149 #[fldv c s 0] w fun e w' => e = .returned (.bool (vldB c s 0)) ∧ Below w.heap.size w w' := by
  have hI : vldB c s 0 = primeB s.toNat := by unfold vldB; simp; omega
  have HI := Lib.hid hI; clear hI
  subst h3
  go_enter Tryz.func149, Tryz.ntmps149
  go_wp2_with (go_at_call 187; refine (prime_any _ _ (by omega) (by omega)).mono ?_; rintro e w' ⟨rfl, rfl⟩)
  go_ret
  exact ⟨ret_bool HI.out.symm, (Below.refl _ _).alloc (Nat.le_refl _) _⟩
set_option maxHeartbeats 400000 in
theorem valid_a2 (c s : Int) (w : World) (h : 2 < s) (h2 : 4096 < s) :
    Calls Tryz.prog 149 #[fldv c s 0] w fun e w' => e = .returned (.bool (vldB c s 0)) ∧ Below w.heap.size w w' := by
  have hI : vldB c s 0 = false := by unfold vldB; simp; omega
  have HI := Lib.hid hI; clear hI
  go_enter Tryz.func149, Tryz.ntmps149
  go_wp2
  go_ret
  exact ⟨ret_bool HI.out.symm, (Below.refl _ _).alloc (Nat.le_refl _) _⟩
set_option maxHeartbeats 400000 in
theorem valid_a3 (c s : Int) (w : World) (h : 2 < s) (h2 : s ≤ 4096) (h3 : (c == s) = false) :
    Calls Tryz.prog 149 #[fldv c s 0] w fun e w' => e = .returned (.bool (vldB c s 0)) ∧ Below w.heap.size w w' := by
  have hI : vldB c s 0 = false := by unfold vldB; have := ne_of_beq_false h3; simp [this]
  have HI := Lib.hid hI; clear hI
  go_enter Tryz.func149, Tryz.ntmps149
  go_wp2
  go_ret
  exact ⟨ret_bool HI.out.symm, (Below.refl _ _).alloc (Nat.le_refl _) _⟩
theorem valid_a (c s : Int) (w : World) :
    Calls Tryz.prog 149 #[fldv c s 0] w fun e w' => e = .returned (.bool (vldB c s 0)) ∧ Below w.heap.size w w' := by
  by_cases h : 2 < s
  · by_cases h2 : s ≤ 4096
    · by_cases h3 : c = s
      · exact valid_a4 c s w h h2 h3
      · exact valid_a3 c s w h h2 (beq_false_of_ne h3)
    · exact valid_a2 c s w h (by omega)
  · exact valid_a1 c s w h
set_option maxHeartbeats 400000 in
theorem valid_b1 (c s p : Int) (w : World) (hp0 : (p == 0) = false) (h : p < 2) :
    Calls Tryz.prog 149 #[fldv c s p] w fun e w' => e = .returned (.bool (vldB c s p)) ∧ Below w.heap.size w w' := by
  have hI : vldB c s p = false := by unfold vldB; have := ne_of_beq_false hp0; rw [if_neg this]; simp; omega
  have HI := Lib.hid hI; clear hI
  go_enter Tryz.func149, Tryz.ntmps149
  go_wp2
  go_ret
  exact ⟨ret_bool HI.out.symm, (Below.refl _ _).alloc (Nat.le_refl _) _⟩
set_option maxHeartbeats 400000 in
theorem valid_b2 (c s p : Int) (w : World) (hp0 : (p == 0) = false) (h : 2 ≤ p) (h1 : p ≤ 9223372036854775807) (h2 : 13 < bl p.toNat) :
    Calls Tryz.prog 149 #[fldv c s p] w fun e w' => e = .returned (.bool (vldB c s p)) ∧ Below w.heap.size w w' := by
  have hI : vldB c s p = false := by unfold vldB; have := ne_of_beq_false hp0; rw [if_neg this]; simp; omega
  have HI := Lib.hid hI; clear hI
  go_enter Tryz.func149, Tryz.ntmps149
  go_wp2_with (go_at_call 188; refine (degree_any _ _ (by omega) (by omega)).mono ?_; rintro e w' ⟨rfl, rfl⟩)
  go_ret
  exact ⟨ret_bool HI.out.symm, (Below.refl _ _).alloc (Nat.le_refl _) _⟩
abbrev szw (p : Int) : Int := IntKind.i64.wrap (2 ^ (bl p.toNat - 1))
theorem szw_eq (p : Int) (h2 : bl p.toNat ≤ 13) : szw p = ((2 ^ (bl p.toNat - 1) : Nat) : Int) := by
  show IntKind.i64.wrap (2 ^ (bl p.toNat - 1)) = _
  have h := Nat.pow_le_pow_right (n := 2) (by omega) (show bl p.toNat - 1 ≤ 12 by omega)
  rw [show ((2 : Int) ^ (bl p.toNat - 1)) = ((2 ^ (bl p.toNat - 1) : Nat) : Int) from by simp]
  generalize 2 ^ (bl p.toNat - 1) = N at *
  rw [IntKind.wrap_i64]; omega
set_option maxHeartbeats 400000 in
theorem valid_b3 (c s p : Int) (w : World) (hp0 : (p == 0) = false) (h : 2 ≤ p) (h1 : p ≤ 9223372036854775807) (h2 : bl p.toNat ≤ 13) (hb : 2 ≤ bl p.toNat)
    (h3 : (c == 2) = false) :
    Calls Tryz.prog 149 #[fldv c s p] w fun e w' => e = .returned (.bool (vldB c s p)) ∧ Below w.heap.size w w' := by
  have hI : vldB c s p = false := by unfold vldB; have := ne_of_beq_false hp0; rw [if_neg this]; have := ne_of_beq_false h3; simp [this]
  have HI := Lib.hid hI; clear hI
  go_enter Tryz.func149, Tryz.ntmps149
  go_wp2_with (go_at_call 188; refine (degree_any _ _ (by omega) (by omega)).mono ?_; rintro e w' ⟨rfl, rfl⟩)
  go_quiet ((first | (go_at_call 188; exact quietL (degree_any _ _ (by omega) (by omega))) | (go_at_call 189; exact quietL (irr_any _ _ (by omega) h2))))
  go_wp2
  go_ret
  exact ⟨ret_bool HI.out.symm, below_drewN ((Below.refl _ _).alloc (Nat.le_refl _) _) _⟩
set_option maxHeartbeats 400000 in
theorem valid_b4 (s z p : Int) (w : World) (hp0 : (p == 0) = false) (h : 2 ≤ p) (h1 : p ≤ 9223372036854775807) (h2 : bl p.toNat ≤ 13) (hb : 2 ≤ bl p.toNat)
    (hz : IntKind.i64.wrap (2 ^ (bl p.toNat - 1)) = z) (h3 : (s == z) = false) :
    Calls Tryz.prog 149 #[fldv 2 s p] w fun e w' => e = .returned (.bool (vldB 2 s p)) ∧ Below w.heap.size w w' := by
  have hI : vldB 2 s p = false := by
    unfold vldB; have := ne_of_beq_false hp0; rw [if_neg this]; rw [← szw_eq p h2]
    have h4 : ¬ s = szw p := by rw [show szw p = z from hz]; exact ne_of_beq_false h3
    simp [h4]
  have HI := Lib.hid hI; clear hI
  go_enter Tryz.func149, Tryz.ntmps149
  go_wp2_with (go_at_call 188; refine (degree_any _ _ (by omega) (by omega)).mono ?_; rintro e w' ⟨rfl, rfl⟩)
  go_quiet ((first | (go_at_call 188; exact quietL (degree_any _ _ (by omega) (by omega))) | (go_at_call 189; exact quietL (irr_any _ _ (by omega) h2))))
  go_wp2
  go_ret
  exact ⟨ret_bool HI.out.symm, below_drewN ((Below.refl _ _).alloc (Nat.le_refl _) _) _⟩
set_option maxHeartbeats 400000 in
theorem valid_b5 (s p : Int) (w : World) (hp0 : (p == 0) = false) (h : 2 ≤ p) (h1 : p ≤ 9223372036854775807) (h2 : bl p.toNat ≤ 13) (hb : 2 ≤ bl p.toNat)
    (hz : IntKind.i64.wrap (2 ^ (bl p.toNat - 1)) = s) :
    Calls Tryz.prog 149 #[fldv 2 s p] w fun e w' => e = .returned (.bool (vldB 2 s p)) ∧ Below w.heap.size w w' := by
  have hI : vldB 2 s p = irrB p.toNat := by
    rw [← show szw p = s from hz]
    unfold vldB; have := ne_of_beq_false hp0; rw [if_neg this]; rw [← szw_eq p h2]
    simp [h, h2]
  have HI := Lib.hid hI; clear hI
  go_enter Tryz.func149, Tryz.ntmps149
  go_wp2_with (go_at_call 188; refine (degree_any _ _ (by omega) (by omega)).mono ?_; rintro e w' ⟨rfl, rfl⟩)
  go_quiet ((first | (go_at_call 188; exact quietL (degree_any _ _ (by omega) (by omega))) | (go_at_call 189; exact quietL (irr_any _ _ (by omega) h2))))
  go_wp2
  go_ret
  exact ⟨ret_bool HI.out.symm, below_drewN ((Below.refl _ _).alloc (Nat.le_refl _) _) _⟩
theorem two_le_bl (p : Int) (h : 2 ≤ p) : 2 ≤ bl p.toNat := by
  have h1 := bl_mono 2 p.toNat (by omega)
  have e : bl 2 = 2 := by decide
  omega
theorem valid_any (c s p : Int) (w : World) (h1 : p ≤ 9223372036854775807) :
    Calls Tryz.prog 149 #[fldv c s p] w fun e w' => e = .returned (.bool (vldB c s p)) ∧ Below w.heap.size w w' := by
  by_cases hp0 : p = 0
  · subst hp0; exact valid_a c s w
  have hpb := beq_false_of_ne hp0
  by_cases h : 2 ≤ p
  · have hb := two_le_bl p h
    by_cases h2 : bl p.toNat ≤ 13
    · by_cases h3 : c = 2
      · subst h3
        by_cases h4 : s = IntKind.i64.wrap (2 ^ (bl p.toNat - 1))
        · exact valid_b5 s p w hpb h h1 h2 hb h4.symm
        · exact valid_b4 s _ p w hpb h h1 h2 hb rfl (beq_false_of_ne h4)
      · exact valid_b3 c s p w hpb h h1 h2 hb (beq_false_of_ne h3)
    · exact valid_b2 c s p w hpb h h1 (by omega)
  · exact valid_b1 c s p w hpb (by omega)
end Go.Proofs.YtmnlkganmgcpbaaGreatDoor
