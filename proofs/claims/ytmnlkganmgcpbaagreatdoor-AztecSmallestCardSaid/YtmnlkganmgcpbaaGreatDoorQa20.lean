import Derived.Test.YtmnlkganmgcpbaaGreatDoorQa19
import Derived.Test.YtmnlkganmgcpbaaGreatDoorQa14
import Derived.Test.YtmnlkganmgcpbaaGreatDoorQa18
namespace Go.Proofs.YtmnlkganmgcpbaaGreatDoor
open Go.RowKit
set_option linter.unusedVariables false
def RetL (w : World) (L : List Int × Int) (e : Ending) (w' : World) : Prop := ∃ v, e = .returned (.tuple #[v, .int .i64 L.2]) ∧ Ints w' v L.1 ∧ Below w.heap.size w w'
theorem RetL.mk {w w' : World} {R : List Int × Int} {v : Value} {L : List Int} {err : Int} (h : R = (L, err)) (hi : Ints w' v L) (hb : Below w.heap.size w w') : RetL w R (.returned (.tuple #[v, .int .i64 err])) w' := by
  subst h; exact ⟨v, rfl, hi, hb⟩
abbrev nl (xs : List Int) : List Nat := xs.map Int.toNat
theorem nl_zl (l : List Nat) : nl (zl l) = l := by
  unfold nl zl
  rw [List.map_map]
  exact (List.map_congr_left fun x _ => (rfl : (Int.toNat ∘ fun n : Nat => (n : Int)) x = x)).trans (List.map_id l)
theorem pvB_nat {c s p : Int} {xs : List Int} (h : pvB c s p xs = true) : ∃ (C S P : Nat) (l : List Nat), c = C ∧ s = S ∧ p = P ∧ xs = zl l ∧ VF C S P ∧ LtAll S l ∧ Trimmed l ∧ l.length ≤ 4097 := by
  unfold pvB at h
  rw [Bool.and_eq_true] at h
  obtain ⟨C, S, P, rfl, rfl, rfl, hv⟩ := vld_nat h.1
  obtain ⟨l, rfl, h1, h2, h3⟩ := polB_nat (by have := hv.two_le; omega) h.2
  exact ⟨C, S, P, l, rfl, rfl, rfl, rfl, hv, h1, h2, h3⟩
theorem pvB_and (c s p : Int) (xs ys : List Int) : (vldB c s p && [(⟨none, 0, 0, xs⟩ : Sl), ⟨none, 0, 0, ys⟩].all fun q => polB s q.xs) = (pvB c s p xs && pvB c s p ys) := by
  unfold pvB; simp only [List.all_cons, List.all_nil]
  cases vldB c s p <;> simp
theorem pvalid2 (c s p : Int) (A B : Option Addr) (n ca m cb : Nat) (xs ys : List Int) (b : Nat) (w : World) (t : TypeId) (hp : p ≤ 9223372036854775807) (hb : b = w.heap.size)
    (hq : (⟨A, n, ca, xs⟩ : Sl).R w) (hr : (⟨B, m, cb, ys⟩ : Sl).R w) :
    Calls Tryz.prog 154 #[fldv c s p, .slice (some ⟨b, 0, none⟩) 2 2] (w.alloc (.cells #[.slice A n ca, .slice B m cb] t)) fun e w' => e = .returned (.bool (pvB c s p xs && pvB c s p ys)) ∧ Below w.heap.size w w' :=
  (pvalid_any c s p (some ⟨b, 0, none⟩) 2 2 [⟨A, n, ca, xs⟩, ⟨B, m, cb, ys⟩] _ rfl (by omega) hp (Sls.two (q := ⟨A, n, ca, xs⟩) (r := ⟨B, m, cb, ys⟩) t b hb hq hr)).mono fun e w' ⟨he, hw⟩ => ⟨he.trans (ret_bool (pvB_and c s p xs ys)), bwStep ((Below.refl _ _).alloc (Nat.le_refl _) _) hw⟩
theorem pvalid0 (c s p : Int) (w : World) (hp : p ≤ 9223372036854775807) :
    Calls Tryz.prog 154 #[fldv c s p, .slice none 0 0] w fun e w' => e = .returned (.bool (vldB c s p)) ∧ Below w.heap.size w w' :=
  (pvalid_any c s p none 0 0 [] w rfl (by omega) hp (Sls.nil_ _ _)).mono fun e w' ⟨he, hw⟩ => ⟨he.trans (ret_bool (by simp)), hw⟩
end Go.Proofs.YtmnlkganmgcpbaaGreatDoor
namespace Go.Proofs.YtmnlkganmgcpbaaGreatDoor
set_option linter.unusedVariables false
set_option linter.unusedSectionVars false
open Fl
section
variable {K : Type} [Fl K]
def tlS (a : Nat → K) : Nat → K := fun n => a (n + 1)
def conv : (Nat → K) → (Nat → K) → Nat → K
  | a, b, 0 => a 0 * b 0
  | a, b, n + 1 => a 0 * b (n + 1) + conv (tlS a) b n
theorem conv_zero (a b : Nat → K) : conv a b 0 = a 0 * b 0 := rfl
theorem conv_succ (a b : Nat → K) (n : Nat) : conv a b (n + 1) = a 0 * b (n + 1) + conv (tlS a) b n := rfl
theorem conv_congr {a a' b b' : Nat → K} {n : Nat} (ha : ∀ k, k ≤ n → a k = a' k) (hb : ∀ k, k ≤ n → b k = b' k) : conv a b n = conv a' b' n := by
  induction n generalizing a a' with
  | zero => rw [conv_zero, conv_zero, ha 0 (Nat.le_refl _), hb 0 (Nat.le_refl _)]
  | succ n ih =>
    rw [conv_succ, conv_succ, ha 0 (by omega), hb (n + 1) (by omega), ih (a := tlS a) (a' := tlS a') (fun k hk => ha (k + 1) (by omega)) (fun k hk => hb k (by omega))]
theorem conv_zero_left {a b : Nat → K} {n : Nat} (ha : ∀ k, a k = 0) : conv a b n = 0 := by
  induction n generalizing a with
  | zero => rw [conv_zero, ha, fzero_mul]
  | succ n ih => rw [conv_succ, ha, fzero_mul, ih (a := tlS a) (fun k => ha (k + 1)), fzero_add]
theorem conv_add_left (a b c : Nat → K) (n : Nat) : conv (fun k => a k + b k) c n = conv a c n + conv b c n := by
  induction n generalizing a b with
  | zero => rw [conv_zero, conv_zero, conv_zero, fadd_mul]
  | succ n ih =>
    rw [conv_succ, conv_succ, conv_succ]
    rw [show conv (tlS fun k => a k + b k) c n = conv (tlS a) c n + conv (tlS b) c n from ih (tlS a) (tlS b), fadd_mul]
    ac_rfl
def cst (r : K) : Nat → K := fun n => if n = 0 then r else 0
theorem conv_cst (r : K) (b : Nat → K) (n : Nat) : conv (cst r) b n = r * b n := by
  cases n with
  | zero => rfl
  | succ n =>
    rw [conv_succ, conv_zero_left (a := tlS (cst r)) (fun k => rfl), fadd_zero]
    rfl
def Sup (d : Nat) (a : Nat → K) : Prop := ∀ i, d ≤ i → a i = 0
theorem Sup.mono {d e : Nat} {a : Nat → K} (h : Sup d a) (hde : d ≤ e) : Sup e a := fun i hi => h i (by omega)
theorem Sup.tl {d : Nat} {a : Nat → K} (h : Sup (d + 1) a) : Sup d (tlS a) := fun i hi => h (i + 1) (by omega)
theorem Sup.all {a : Nat → K} (h : Sup 0 a) (k : Nat) : a k = 0 := h k (Nat.zero_le _)
theorem conv_top {a b : Nat → K} {d e : Nat} (ha : Sup (d + 1) a) (hb : Sup (e + 1) b) : conv a b (d + e) = a d * b e := by
  induction d generalizing a with
  | zero =>
    rw [Nat.zero_add]
    cases e with
    | zero => rfl
    | succ e => rw [conv_succ, conv_zero_left ha.tl.all, fadd_zero]
  | succ d ih =>
    rw [show d + 1 + e = (d + e) + 1 from by omega, conv_succ, hb _ (by omega), fmul_zero, fzero_add, ih ha.tl]
    rfl
def evs (x : K) : (Nat → K) → Nat → K
  | _, 0 => 0
  | f, n + 1 => f 0 + x * evs x (tlS f) n
theorem evs_succ (x : K) (f : Nat → K) (n : Nat) : evs x f (n + 1) = f 0 + x * evs x (tlS f) n := rfl
theorem evs_congr {x : K} {f g : Nat → K} {n : Nat} (h : ∀ i, i < n → f i = g i) : evs x f n = evs x g n := by
  induction n generalizing f g with
  | zero => rfl
  | succ n ih => rw [evs_succ, evs_succ, h 0 (by omega), ih (f := tlS f) (g := tlS g) (fun i hi => h (i + 1) (by omega))]
theorem evs_zero {x : K} {f : Nat → K} (h : ∀ i, f i = 0) (n : Nat) : evs x f n = 0 := by
  induction n generalizing f with
  | zero => rfl
  | succ n ih => rw [evs_succ, h, ih (f := tlS f) (fun i => h (i + 1)), fmul_zero, fadd_zero]
theorem evs_ext {x : K} {f : Nat → K} {n m : Nat} (h : Sup n f) (hm : n ≤ m) : evs x f m = evs x f n := by
  induction n generalizing f m with
  | zero => exact evs_zero h.all m
  | succ n ih =>
    obtain ⟨m, rfl⟩ : ∃ k, m = k + 1 := ⟨m - 1, by omega⟩
    rw [evs_succ, evs_succ, ih h.tl (by omega)]
theorem evs_add (x : K) (f g : Nat → K) (n : Nat) : evs x (fun k => f k + g k) n = evs x f n + evs x g n := by
  induction n generalizing f g with
  | zero => exact (fzero_add _).symm
  | succ n ih =>
    rw [evs_succ, evs_succ, evs_succ, show evs x (tlS fun k => f k + g k) n = evs x (tlS f) n + evs x (tlS g) n from ih (tlS f) (tlS g), fmul_add]
    ac_rfl
theorem evs_smul (x r : K) (f : Nat → K) (n : Nat) : evs x (fun k => r * f k) n = r * evs x f n := by
  induction n generalizing f with
  | zero => exact (fmul_zero _).symm
  | succ n ih =>
    rw [evs_succ, evs_succ, show evs x (tlS fun k => r * f k) n = r * evs x (tlS f) n from ih (tlS f), fmul_add]
    ac_rfl
theorem evs_neg (x : K) (f : Nat → K) (n : Nat) : evs x (fun k => -f k) n = -evs x f n := by
  apply fadd_right_cancel (a := evs x f n)
  rw [← evs_add, fneg_add]
  exact evs_zero (fun k => fneg_add _) n
theorem evs_sub (x : K) (f g : Nat → K) (n : Nat) : evs x (fun k => f k - g k) n = evs x f n - evs x g n := by
  rw [show evs x (fun k => f k - g k) n = evs x (fun k => f k + -g k) n from rfl, evs_add x f (fun k => -g k), evs_neg]; rfl
theorem evs_conv {x : K} {a b : Nat → K} {d e : Nat} (ha : Sup d a) (hb : Sup e b) : evs x (conv a b) (d + e) = evs x a d * evs x b e := by
  induction d generalizing a with
  | zero => rw [show evs x a 0 = 0 from rfl, fzero_mul]; exact evs_zero (fun i => conv_zero_left ha.all) _
  | succ d ih =>
    rw [show d + 1 + e = (d + e) + 1 from by omega, evs_succ, evs_succ]
    have e1 : evs x (tlS (conv a b)) (d + e) = a 0 * evs x (tlS b) (d + e) + evs x (conv (tlS a) b) (d + e) := by
      rw [← evs_smul, ← evs_add]; rfl
    have e2 : evs x b e = b 0 + x * evs x (tlS b) (d + e) := by
      rw [← evs_succ]; exact (evs_ext hb (by omega)).symm
    rw [e1, ih ha.tl, conv_zero, fadd_mul, fmul_add, e2, fmul_add]
    simp only [fmul_add]
    ac_rfl
def tms (n : Nat) (a : K) : K := match n with
  | 0 => 0
  | n + 1 => tms n a + a
def sh (a : Nat → K) : Nat → K
  | 0 => 0
  | n + 1 => a n
end
end Go.Proofs.YtmnlkganmgcpbaaGreatDoor
namespace Go.Proofs.YtmnlkganmgcpbaaGreatDoor
set_option linter.unusedVariables false
set_option linter.unusedSectionVars false
open Fl
def KF {c s p : Nat} (h : VF c s p) : Type := El s
instance {c s p : Nat} (h : VF c s p) : Fl (KF h) := fldOf h
theorem getD_ge {l : List Nat} {i : Nat} (hi : l.length ≤ i) : l.getD i 0 = 0 := by
  rw [List.getD, List.getElem?_eq_none hi]; rfl
theorem ltAll_trim {s : Nat} {l : List Nat} (hl : LtAll s l) : LtAll s (trimL l) := fun i => by rw [trimL_getD]; exact hl i
theorem qL_zero {s p : Nat} (a b : List Nat) (M n0 k : Nat) (j : Nat) (hj : j < M - k) : (qL s p a b M n0 k).getD j 0 = 0 := by
  induction k with
  | zero =>
    by_cases h0 : j < n0
    · simp [qL, List.getD, h0]
    · simp [qL, List.getD, h0]
  | succ k ih =>
    show ((qL s p a b M n0 k).set (M - 1 - k) _).getD j 0 = 0
    have := ih (by omega)
    rw [List.getD, List.getElem?_set_ne (by omega)]
    exact this
section
variable {c s p : Nat} (h : VF c s p)
def mkK (n : Nat) : KF h := (⟨n % s, Nat.mod_lt _ (by have := h.two_le; omega)⟩ : El s)
def mono (i : Nat) (u : KF h) : Nat → KF h := fun k => if k = i then u else 0
def shNK (i : Nat) (f : Nat → KF h) : Nat → KF h := fun n => if i ≤ n then f (n - i) else 0
def co (l : List Nat) : Nat → KF h := fun i => mkK h (l.getD i 0)
include h
theorem mkK_of {n : Nat} (hn : n < s) : mkK h n = (⟨n, hn⟩ : El s) := El.ext (Nat.mod_eq_of_lt hn)
theorem mkK_inj {a b : Nat} (ha : a < s) (hb : b < s) (e : mkK h a = mkK h b) : a = b := by
  rw [mkK_of h ha, mkK_of h hb] at e
  exact congrArg El.val e
theorem mkK_zero : mkK h 0 = 0 := mkK_of h (by have := h.two_le; omega)
theorem mkK_one : mkK h 1 = 1 := mkK_of h (by have := h.two_le; omega)
theorem mkK_add {a b : Nat} (ha : a < s) (hb : b < s) : mkK h (faddN s p a b) = mkK h a + mkK h b := by
  rw [mkK_of h (fadd_lt h _ _ ha hb), mkK_of h ha, mkK_of h hb]; rfl
theorem mkK_mul {a b : Nat} (ha : a < s) (hb : b < s) : mkK h (fmulN s p a b) = mkK h a * mkK h b := by
  rw [mkK_of h (fmul_lt h _ _), mkK_of h ha, mkK_of h hb]; rfl
theorem mkK_sub {a b : Nat} (ha : a < s) (hb : b < s) : mkK h (fsubN s p a b) = mkK h a - mkK h b := by
  rw [mkK_of h (subN_lt h ha hb), mkK_of h ha, mkK_of h hb]
  exact El.ext (fsubN_val h ⟨a, ha⟩ ⟨b, hb⟩)
theorem mkK_ne {a : Nat} (ha : a < s) (h0 : a ≠ 0) : mkK h a ≠ 0 := by
  intro e
  rw [← mkK_zero h] at e
  exact h0 (mkK_inj h ha (by have := h.two_le; omega) e)
theorem mkK_inv {a : Nat} (ha : a < s) (h0 : a ≠ 0) : mkK h a * mkK h (finvN s p a) = 1 := by
  rw [← mkK_mul h ha (invN_lt h), mulN_inv h ha h0, mkK_one]
theorem co_sup (l : List Nat) : Sup l.length (co h l) := fun i hi => by
  unfold co; rw [getD_ge hi, mkK_zero]
theorem co_trim (l : List Nat) (i : Nat) : co h (trimL l) i = co h l i := by unfold co; rw [trimL_getD]
theorem co_map (n : Nat) (f : Nat → Nat) (i : Nat) : co h ((List.range n).map f) i = if i < n then mkK h (f i) else 0 := by
  unfold co
  split
  · rename_i hi; rw [getD_map_range _ _ _ hi]
  · rename_i hi; rw [getD_ge (by simp; omega), mkK_zero]
theorem ltAll_map {n : Nat} {f : Nat → Nat} (hf : ∀ i, i < n → f i < s) : LtAll s ((List.range n).map f) := fun i => by
  by_cases hi : i < n
  · rw [getD_map_range _ _ _ hi]; exact hf i hi
  · rw [getD_ge (by simp; omega)]; have := h.two_le; show 0 < s; omega
theorem co_set (l : List Nat) (i v j : Nat) (hi : i < l.length) : co h (l.set i v) j = if j = i then mkK h v else co h l j := by
  unfold co
  by_cases e : j = i
  · subst e; rw [if_pos rfl]; congr 1; simp [List.getD, hi]
  · rw [if_neg e]; congr 1; simp [List.getD, List.getElem?_set_ne (Ne.symm e)]
theorem trimmed_top {l : List Nat} (hl : LtAll s l) (ht : Trimmed l) (hn : 1 ≤ l.length) : co h l (l.length - 1) ≠ 0 := by
  rcases ht with rfl | ht
  · simp at hn
  · exact mkK_ne h (hl _) ht
theorem length_le_of_sup {l : List Nat} (hl : LtAll s l) (ht : Trimmed l) {d : Nat} (hd : Sup d (co h l)) : l.length ≤ d := by
  rcases Nat.lt_or_ge d l.length with h1 | h1
  · exact absurd (hd (l.length - 1) (by omega)) (trimmed_top h hl ht (by omega))
  · exact h1
theorem horn_co {x : Nat} (hx : x < s) (l : List Nat) (hl : ∀ y ∈ l, y < s) : mkK h (hornN s p x l) = evs (mkK h x) (co h l) l.length := by
  induction l with
  | nil => exact mkK_zero h
  | cons a t ih =>
    show mkK h (faddN s p (fmulN s p (hornN s p x t) x) a) = _
    rw [mkK_add h (fmul_lt h _ _) (hl a (by simp)), mkK_mul h (hornN_lt h x t fun y hy => hl y (by simp [hy])) hx, ih fun y hy => hl y (by simp [hy])]
    rw [List.length_cons, evs_succ]
    show _ = mkK h a + mkK h x * evs (mkK h x) (co h t) t.length
    rw [fadd_comm, fmul_comm]
theorem conv_mono (i : Nat) (u : KF h) (b : Nat → KF h) (n : Nat) : conv (mono h i u) b n = u * shNK h i b n := by
  induction i generalizing n with
  | zero =>
    rw [show mono h 0 u = cst u from rfl, conv_cst]
    unfold shNK; rw [if_pos (Nat.zero_le _)]; rfl
  | succ i ih =>
    cases n with
    | zero =>
      rw [conv_zero]
      unfold mono shNK
      rw [if_neg (by omega), if_neg (by omega), fzero_mul, fmul_zero]
    | succ n =>
      rw [conv_succ]
      have e1 : mono h (i + 1) u 0 = 0 := by unfold mono; rw [if_neg (by omega)]
      have e2 : tlS (mono h (i + 1) u) = mono h i u := by
        funext k
        unfold tlS mono
        by_cases e : k = i
        · rw [if_pos e, if_pos (by omega)]
        · rw [if_neg e, if_neg (by omega)]
      rw [e1, e2, fzero_mul, fzero_add, ih]
      unfold shNK
      by_cases e : i ≤ n
      · rw [if_pos e, if_pos (by omega), show n + 1 - (i + 1) = n - i from by omega]
      · rw [if_neg e, if_neg (by omega)]
theorem subRow_co {d : Nat} (hd : d < s) {b r : List Nat} (hb : LtAll s b) (hr : LtAll s r) (i j : Nat) (hij : i + j ≤ r.length) (n : Nat) :
    co h (subRow s p d b r i j) n = co h r n - (if i ≤ n ∧ n < i + j then mkK h d * co h b (n - i) else 0) := by
  induction j with
  | zero => rw [if_neg (by omega), fsub_zero]; rfl
  | succ j ih =>
    have ih := ih (by omega)
    show co h ((subRow s p d b r i j).set (i + j) _) n = _
    rw [co_set h _ _ _ _ (by rw [subRow_length]; omega)]
    by_cases e : n = i + j
    · subst e
      rw [if_pos rfl, if_pos (by omega), mkK_sub h (subRow_lt h hr i j _) (fmul_lt h _ _), mkK_mul h hd (hb _)]
      rw [if_neg (by omega), fsub_zero] at ih
      rw [show mkK h ((subRow s p d b r i j).getD (i + j) 0) = co h (subRow s p d b r i j) (i + j) from rfl, ih, show i + j - i = j from by omega]
      rfl
    · rw [if_neg e, ih]
      by_cases e2 : i ≤ n ∧ n < i + j
      · rw [if_pos e2, if_pos (by omega)]
      · rw [if_neg e2, if_neg (by omega)]
theorem subRow_all {d : Nat} (hd : d < s) {b r : List Nat} (hb : LtAll s b) (hr : LtAll s r) (i : Nat) (hij : i + b.length ≤ r.length) (n : Nat) :
    co h (subRow s p d b r i b.length) n = co h r n - mkK h d * shNK h i (co h b) n := by
  rw [subRow_co h hd hb hr i _ hij]
  congr 1
  unfold shNK
  by_cases h1 : i ≤ n
  · by_cases h2 : n < i + b.length
    · rw [if_pos ⟨h1, h2⟩, if_pos h1]
    · rw [if_neg (by omega), if_pos h1, co_sup h b (n - i) (by omega), fmul_zero]
  · rw [if_neg (by omega), if_neg h1, fmul_zero]
theorem div_inv {a b : List Nat} (ha : LtAll s a) (hb : LtAll s b) (hb1 : 1 ≤ b.length) (n0 : Nat) (hn0 : divM a b ≤ n0) (k : Nat) (hk : k ≤ divM a b) (n : Nat) :
    co h a n = conv (co h (qL s p a b (divM a b) n0 k)) (co h b) n + co h (rL s p a b (divM a b) k) n := by
  induction k with
  | zero =>
    show _ = conv (co h (List.replicate n0 0)) _ n + co h a n
    rw [conv_zero_left, fzero_add]
    intro i
    unfold co
    by_cases h0 : i < n0
    · rw [show (List.replicate n0 0).getD i 0 = 0 from by simp [List.getD, h0], mkK_zero]
    · rw [show (List.replicate n0 0).getD i 0 = 0 from by simp [List.getD, h0], mkK_zero]
  | succ k ih =>
    have ih := ih (by omega)
    have hM : divM a b = a.length - (b.length - 1) := rfl
    have hc : cL s p a b (divM a b) k < s := fmul_lt h _ _
    have hq : ∀ i, co h (qL s p a b (divM a b) n0 (k + 1)) i = co h (qL s p a b (divM a b) n0 k) i + mono h (divM a b - 1 - k) (mkK h (cL s p a b (divM a b) k)) i := by
      intro i
      show co h ((qL s p a b (divM a b) n0 k).set (divM a b - 1 - k) (cL s p a b (divM a b) k)) i = _
      rw [co_set h _ _ _ _ (by rw [qL_length]; omega)]
      unfold mono
      by_cases e : i = divM a b - 1 - k
      · rw [if_pos e, if_pos e]
        have : co h (qL s p a b (divM a b) n0 k) i = 0 := by
          unfold co; rw [qL_zero a b _ _ _ _ (by omega), mkK_zero]
        rw [this, fzero_add]
      · rw [if_neg e, if_neg e, fadd_zero]
    have hr : co h (rL s p a b (divM a b) (k + 1)) n = co h (rL s p a b (divM a b) k) n - mkK h (cL s p a b (divM a b) k) * shNK h (divM a b - 1 - k) (co h b) n :=
      subRow_all h hc hb (rL_lt h ha _ _) _ (by rw [rL_length]; omega) n
    rw [conv_congr (a := co h (qL s p a b (divM a b) n0 (k + 1))) (b := co h b) (b' := co h b) (fun i _ => hq i) (fun _ _ => rfl), conv_add_left, conv_mono, hr, ih]
    generalize mkK h (cL s p a b (divM a b) k) * shNK h (divM a b - 1 - k) (co h b) n = u
    generalize co h (rL s p a b (divM a b) k) n = v
    generalize conv (co h (qL s p a b (divM a b) n0 k)) (co h b) n = x
    rw [fsub_def, show x + u + (v + -u) = (x + v) + (u + -u) from by ac_rfl, fadd_neg, fadd_zero]
theorem rL_sup {a b : List Nat} (ha : LtAll s a) (hb : LtAll s b) (hb1 : 1 ≤ b.length) (hb0 : b.getD (b.length - 1) 0 ≠ 0) (k : Nat) (hk : k ≤ divM a b) :
    Sup (b.length - 1 + divM a b - k) (co h (rL s p a b (divM a b) k)) := by
  induction k with
  | zero =>
    have hM : divM a b = a.length - (b.length - 1) := rfl
    exact (co_sup h a).mono (by omega)
  | succ k ih =>
    have ih := ih (by omega)
    intro n hn
    have hc : cL s p a b (divM a b) k < s := fmul_lt h _ _
    have hM : divM a b = a.length - (b.length - 1) := rfl
    rw [show co h (rL s p a b (divM a b) (k + 1)) n = co h (rL s p a b (divM a b) k) n - mkK h (cL s p a b (divM a b) k) * shNK h (divM a b - 1 - k) (co h b) n from
      subRow_all h hc hb (rL_lt h ha _ _) _ (by rw [rL_length]; omega) n]
    by_cases e : n = divM a b - 1 - k + (b.length - 1)
    · unfold shNK
      rw [if_pos (by omega), show n - (divM a b - 1 - k) = b.length - 1 from by omega]
      have e2 : mkK h (cL s p a b (divM a b) k) = co h (rL s p a b (divM a b) k) n * mkK h (finvN s p (b.getD (b.length - 1) 0)) := by
        show mkK h (fmulN s p _ _) = _
        rw [mkK_mul h (rL_lt h ha _ _ _) (invN_lt h), e]; rfl
      rw [e2, fmul_assoc, fmul_comm (mkK h (finvN s p _)), show co h b (b.length - 1) = mkK h (b.getD (b.length - 1) 0) from rfl, mkK_inv h (hb _) hb0, fmul_one, fsub_self]
    · rw [ih n (by omega)]
      unfold shNK
      rw [if_pos (by omega), co_sup h b (n - (divM a b - 1 - k)) (by omega), fmul_zero, fsub_zero]
theorem divRest_lt {a b : List Nat} (ha : LtAll s a) : LtAll s (divRest s p a b) := ltAll_trim (rL_lt h ha _ _)
theorem divRest_trimmed (a b : List Nat) : Trimmed (divRest s p a b) := trimL_trimmed _
theorem divRest_sup {a b : List Nat} (ha : LtAll s a) (hb : LtAll s b) (hb1 : 1 ≤ b.length) (hb0 : b.getD (b.length - 1) 0 ≠ 0) : Sup (b.length - 1) (co h (divRest s p a b)) := by
  intro i hi
  unfold divRest
  rw [co_trim]
  exact rL_sup h ha hb hb1 hb0 _ (Nat.le_refl _) i (by omega)
theorem divRest_length {a b : List Nat} (ha : LtAll s a) (hb : LtAll s b) (hb1 : 1 ≤ b.length) (hb0 : b.getD (b.length - 1) 0 ≠ 0) : (divRest s p a b).length < b.length := by
  have := length_le_of_sup h (divRest_lt h ha) (divRest_trimmed h a b) (divRest_sup h ha hb hb1 hb0)
  omega
theorem div_eq {a b : List Nat} (ha : LtAll s a) (hb : LtAll s b) (hb1 : 1 ≤ b.length) (n : Nat) : co h a n = conv (co h (divQ s p a b)) (co h b) n + co h (divRest s p a b) n := by
  have := div_inv h ha hb hb1 (divM a b) (Nat.le_refl _) (divM a b) (Nat.le_refl _) n
  rw [this]
  unfold divQ divRest
  rw [co_trim]
end
end Go.Proofs.YtmnlkganmgcpbaaGreatDoor
namespace Go.Proofs.YtmnlkganmgcpbaaGreatDoor
open Go.RowKit
set_option linter.unusedVariables false
theorem trimmed_last {b : List Nat} (ht : Trimmed b) (h : b ≠ []) : b.getD (b.length - 1) 0 ≠ 0 := by
  rcases ht with e | e
  · exact absurd e h
  · exact e
theorem adivide_n (C S P be bl : Nat) (a b : List Nat) (n m : Nat) (hn : n = a.length) (hm : m = b.length) (A B : Option Addr) (ca cb : Nat) (w : World) (hv : VF C S P) (hla : LtAll S a) (hlb : LtAll S b) (hna : a.length ≤ 8193) (hnb : b.length ≤ 4097) (tb : Trimmed b) (hb1 : b ≠ [])
    (ht : TabAt w S P be bl) (ha : RD w A (zl a)) (hb : RD w B (zl b)) :
    Calls Tryz.prog 156 #[arv C S be bl, .slice A n ca, .slice B m cb] w fun e w' => ∃ vq vr, e = .returned (.tuple #[vq, vr]) ∧ Ints w' vq (zl (divQ S P a b)) ∧ Ints w' vr (zl (divRest S P a b)) ∧ Below w.heap.size w w' := by
  subst hn hm
  have hl : 1 ≤ b.length := List.length_pos_iff.2 hb1
  rcases Nat.lt_or_ge a.length b.length with h1 | h1
  · exact adivide_none C S P be bl a b A B ca cb w hv hna hnb hl (by omega) ha
  · exact adivide_some C S P be bl a b A B ca cb w hv hla hlb hna hnb hl h1 (trimmed_last tb hb1) ht ha hb
theorem Ints.n {w : World} {v : Value} {l : List Nat} (h : Ints w v (zl l)) : ∃ A n c, v = .slice A n c ∧ n = l.length ∧ n ≤ c ∧ c ≤ maxLen ∧ RD w A (zl l) := by
  obtain ⟨A, c, rfl, h1, h2, h3⟩ := h
  exact ⟨A, _, c, rfl, zl_length l, h1, h2, h3⟩
theorem aextend_n (C S P be bl r c : Nat) (l : List Nat) (n : Nat) (hnn : n = l.length) (A : Option Addr) (ca : Nat) (w : World) (hv : VF C S P) (hl : LtAll S l) (hr : r < S) (hc : c < S) (hn : l.length ≤ 8193)
    (ht : TabAt w S P be bl) (ha : RD w A (zl l)) :
    Calls Tryz.prog 191 #[arv C S be bl, .slice A n ca, .int .i64 r, .int .i64 c] w fun e w' => ∃ v, e = .returned v ∧ Ints w' v (zl (extL S P l r c)) ∧ Below w.heap.size w w' := by
  subst hnn; exact aextend_any C S P be bl r c l A ca w hv hl hr hc hn ht ha
theorem RD.lit (W : World) (xs : List Int) (t : TypeId) (b : Nat) (hb : b = W.heap.size) : RD (W.alloc (.cells (xs.map (Value.int .i64)).toArray t)) (some ⟨b, 0, none⟩) xs := fun _ => by
  refine ⟨_, rfl, by simp; omega, fun j hj => ?_⟩
  have := (CellsAt.new W (xs.map (Value.int .i64)).toArray t b hb).2 j (by simpa using hj)
  rw [add_plain, Nat.zero_add, this]
  simp [List.getD, hj]
theorem Sl.lit (W : World) (xs : List Int) (t : TypeId) (b n : Nat) (hb : b = W.heap.size) (hn : n = xs.length) (h : n ≤ 1000) : (⟨some ⟨b, 0, none⟩, n, n, xs⟩ : Sl).R (W.alloc (.cells (xs.map (Value.int .i64)).toArray t)) :=
  ⟨hn, by simp only; omega, RD.lit W xs t b hb, Nat.le_refl _, by simp only [maxLen]; omega⟩
theorem Ints.lit (W : World) (xs : List Int) (t : TypeId) (b n : Nat) (hb : b = W.heap.size) (hn : n = xs.length) (h : n ≤ 1000) : Ints (W.alloc (.cells (xs.map (Value.int .i64)).toArray t)) (.slice (some ⟨b, 0, none⟩) n n) xs :=
  (Sl.lit W xs t b n hb hn h).ints
def RetD (w : World) (L : List Int × List Int × Int) (e : Ending) (w' : World) : Prop := ∃ v u, e = .returned (.tuple #[v, u, .int .i64 L.2.2]) ∧ Ints w' v L.1 ∧ Ints w' u L.2.1 ∧ Below w.heap.size w w'
theorem RetD.mk {w w' : World} {R : List Int × List Int × Int} {v u : Value} {L M : List Int} {err : Int} (h : R = (L, M, err)) (hi : Ints w' v L) (hj : Ints w' u M) (hb : Below w.heap.size w w') : RetD w R (.returned (.tuple #[v, u, .int .i64 err])) w' := by
  subst h; exact ⟨v, u, rfl, hi, hj, hb⟩
def divRes (c s p : Int) (xs ys : List Int) : List Int × List Int × Int :=
  if (pvB c s p xs && pvB c s p ys) = true then (if ys = [] then ([], [], 12) else (zl (divQ s.toNat p.toNat (nl xs) (nl ys)), zl (divRest s.toNat p.toNat (nl xs) (nl ys)), 0)) else ([], [], 1)
theorem zl_nil {l : List Nat} (h : zl l = []) : l = [] := by have := congrArg nl h; rw [nl_zl] at this; exact this
set_option maxRecDepth 100000 in
set_option maxHeartbeats 1000000 in
theorem pDivMod_any (c s p : Int) (q r : Sl) (w : World) (hp : p ≤ 9223372036854775807) (hq : q.R w) (hr : r.R w) :
    Calls Tryz.prog 115 #[fldv c s p, q.v, r.v] w (RetD w (divRes c s p q.xs r.xs)) := by
  obtain ⟨A, n, ca, xs⟩ := q
  obtain ⟨B, m, cb, ys⟩ := r
  have hbx : Below w.heap.size w (w.alloc (fldB c s p)) := (Below.refl _ _).alloc (Nat.le_refl _) _
  have HQ := Lib.hid (hq.below hbx)
  have HR := Lib.hid (hr.below hbx)
  show Calls Tryz.prog 115 #[fldv c s p, .slice A n ca, .slice B m cb] w (RetD w (divRes c s p xs ys))
  have CB : Hid (CellsAt (w.alloc (fldB c s p)) w.heap.size (fldC c s p)) := CellsAt.new _ _ _ _ rfl
  cases hV : (pvB c s p xs && pvB c s p ys) with
  | false =>
    have HV := Lib.hid hV
    have HF : Hid (divRes c s p xs ys = ([], [], 1)) := by show _ = _; unfold divRes; rw [hV]; rfl
    clear hV hq hr hbx
    go_enter Tryz.func115, Tryz.ntmps115
    go_wp2_with (go_at_call 154; refine (pvalid2 c s p A B n ca m cb xs ys _ _ 64 hp (by simp) HQ.out HR.out).mono ?_; rintro e w1 ⟨rfl, hb1⟩; rw [HV.out]; have HB1 := Lib.hid hb1; clear hb1)
    go_ret3
    exact RetD.mk HF.out (Ints.nil_ _) (Ints.nil_ _) (bw1 HB1.out)
  | true =>
    have hV' := hV
    rw [Bool.and_eq_true] at hV'
    obtain ⟨C, S, P, a, rfl, rfl, rfl, rfl, hv, hla, hta, hna⟩ := pvB_nat hV'.1
    obtain ⟨C', S', P', b, e1, e2, e3, rfl, -, hlb, htb, hnb⟩ := pvB_nat hV'.2
    obtain rfl : S = S' := by omega
    have hnn : n = a.length := hq.hn.trans (zl_length a)
    have hmm : m = b.length := hr.hn.trans (zl_length b)
    have HV := Lib.hid hV
    have HVF := Lib.hid hv
    have HLA := Lib.hid hla
    have HLB := Lib.hid hlb
    have HTB := Lib.hid htb
    have HNN := Lib.hid hnn
    have HMM := Lib.hid hmm
    have HNA := Lib.hid hna
    have HNB := Lib.hid hnb
    by_cases hb0 : b = []
    · have HF : Hid (divRes C S P (zl a) (zl b) = ([], [], 12)) := by show _ = _; unfold divRes; rw [if_pos hV, hb0]; rfl
      have hm0 : m = 0 := by rw [hmm, hb0]; rfl
      subst hm0
      clear hV hV' e1 e2 e3 hv hla hlb hta htb hna hnb hnn hmm hb0 hq hr hbx
      go_enter Tryz.func115, Tryz.ntmps115
      go_wp2_with (go_at_call 154; refine (pvalid2 C S P A B n ca 0 cb _ _ _ _ 64 hp (by simp) HQ.out HR.out).mono ?_; rintro e w1 ⟨rfl, hb1⟩; rw [HV.out]; have HB1 := Lib.hid hb1; clear hb1)
      go_ret3
      exact RetD.mk HF.out (Ints.nil_ _) (Ints.nil_ _) (bw1 HB1.out)
    · have HF : Hid (divRes C S P (zl a) (zl b) = (zl (divQ S P a b), zl (divRest S P a b), 0)) := by
        show _ = _; unfold divRes; rw [if_pos hV, if_neg (fun e => hb0 (zl_nil e)), nl_zl, nl_zl]; rfl
      have hm1 : 0 < m := by rw [hmm]; exact List.length_pos_iff.2 hb0
      have z1 : ((m : Int) == 0) = false := by rw [beq_eq_false_iff_ne]; omega
      have HB0 := Lib.hid hb0
      clear hV hV' e1 e2 e3 hv hla hlb hta htb hna hnb hnn hmm hb0 hq hr hbx
      go_enter Tryz.func115, Tryz.ntmps115
      go_wp2_with (first
          | (go_at_call 154; refine (pvalid2 C S P A B n ca m cb _ _ _ _ 64 hp (by simp) HQ.out HR.out).mono ?_; rintro e w1 ⟨rfl, hb1⟩; rw [HV.out]; have HB1 := Lib.hid hb1; clear hb1; obtain ⟨f0, f1, f2⟩ := fldC_cells (CB.out.below HB1.out))
          | (go_at_call 155; refine (newA_any C S P _ HVF.out).mono ?_; rintro e w2 ⟨be, bl, rfl, ht, hb2⟩; have HT := Lib.hid ht; have HB2 := Lib.hid hb2; clear ht hb2)
          | (go_at_call 156; refine (adivide_n C S P be bl a b n m HNN.out HMM.out A B ca cb _ HVF.out HLA.out HLB.out (by have := HNA.out; omega) HNB.out HTB.out HB0.out HT.out ((HQ.out.below HB1.out).below HB2.out).rd ((HR.out.below HB1.out).below HB2.out).rd).mono ?_; rintro e w3 ⟨vq, vr, rfl, hI, hJ, hb3⟩; have HI := Lib.hid hI; have HJ := Lib.hid hJ; have HB3 := Lib.hid hb3; clear hI hJ hb3))
      go_ret3
      exact RetD.mk HF.out HI.out HJ.out (bw1 (bwStep (bwStep HB1.out HB2.out) HB3.out))
def fromL (s p : Nat) (roots : List Nat) : Nat → List Nat
  | 0 => [1]
  | k + 1 => extL s p (fromL s p roots k) (roots.getD k 0) 0
theorem fromL_length (s p : Nat) (roots : List Nat) (k : Nat) : (fromL s p roots k).length = k + 1 := by
  induction k with
  | zero => rfl
  | succ k ih => unfold fromL extL; rw [eL_length, ih]
theorem fromL_lt {c s p : Nat} (h : VF c s p) {roots : List Nat} (hr : LtAll s roots) (k : Nat) : LtAll s (fromL s p roots k) := by
  have h2 := h.two_le
  induction k with
  | zero =>
    intro i
    match i with
    | 0 => show 1 < s; omega
    | i + 1 => show ([1] : List Nat).getD (i + 1) 0 < s; simp [List.getD]; omega
  | succ k ih => exact eL_lt h ih (hr _) (by omega) _
def fromRes (c s p : Int) (xs : List Int) : List Int × Int :=
  if (vldB c s p && inB s xs) = true then (if 4096 < xs.length then ([], 4) else (zl (fromL s.toNat p.toNat (nl xs) xs.length), 0)) else ([], 1)
set_option maxRecDepth 100000 in
set_option maxHeartbeats 2000000 in
theorem pFromRoots_any (c s p : Int) (q : Sl) (w : World) (hp : p ≤ 9223372036854775807) (hq : q.R w) :
    Calls Tryz.prog 153 #[fldv c s p, q.v] w (RetL w (fromRes c s p q.xs)) := by
  obtain ⟨A, n, ca, xs⟩ := q
  have hbx : Below w.heap.size w (w.alloc (fldB c s p)) := (Below.refl _ _).alloc (Nat.le_refl _) _
  have HQ := Lib.hid (hq.below hbx)
  have CB : Hid (CellsAt (w.alloc (fldB c s p)) w.heap.size (fldC c s p)) := CellsAt.new _ _ _ _ rfl
  have HC : Hid (∀ w1, Below (w.alloc (fldB c s p)).heap.size (w.alloc (fldB c s p)) w1 → w1.cell? ⟨w.heap.size, 0, none⟩ = some (.int .i64 c) ∧ w1.cell? ⟨w.heap.size, 1, none⟩ = some (.int .i64 s) ∧ w1.cell? ⟨w.heap.size, 2, none⟩ = some (.int .i64 p)) := fun w1 hb => fldC_cells (CB.out.below hb)
  have EQ : Hid (∀ w1, Abv (w.alloc (fldB c s p)) w1 → Calls Tryz.prog 190 #[fldv c s p, .slice A n ca] w1 fun e w' => e = .returned (.bool (inB s xs)) ∧ Below w1.heap.size w1 w') := fun w1 hb => elements_n c s p xs n hq.hn A ca w1 hq.hm (HQ.out.below hb).rd
  show Calls Tryz.prog 153 #[fldv c s p, .slice A n ca] w (RetL w (fromRes c s p xs))
  cases hv : vldB c s p with
  | false =>
    have HV := Lib.hid hv
    have HF : Hid (fromRes c s p xs = ([], 1)) := by show _ = _; unfold fromRes; rw [hv]; rfl
    clear hv hq hbx
    go_enter Tryz.func153, Tryz.ntmps153
    go_wp2_with (go_at_call 154; refine (pvalid0 c s p _ hp).mono ?_; rintro e w1 ⟨rfl, hb1⟩; rw [HV.out]; have HB1 := Lib.hid hb1; clear hb1)
    go_ret2
    exact RetL.mk HF.out (Ints.nil_ _) (bw1 HB1.out)
  | true =>
    have HV := Lib.hid hv
    cases hx : inB s xs with
    | false =>
      have HX := Lib.hid hx
      have HF : Hid (fromRes c s p xs = ([], 1)) := by show _ = _; unfold fromRes; rw [hv, hx]; rfl
      clear hx hv hq hbx
      go_enter Tryz.func153, Tryz.ntmps153
      go_wp2_with (first
        | (go_at_call 154; refine (pvalid0 c s p _ hp).mono ?_; rintro e w1 ⟨rfl, hb1⟩; rw [HV.out]; have HB1 := Lib.hid hb1; clear hb1; obtain ⟨f0, f1, f2⟩ := HC.out _ HB1.out)
        | (go_at_call 190; refine (EQ.out _ HB1.out).mono ?_; rintro e w2 ⟨rfl, hb2⟩; rw [HX.out]; have HB2 := Lib.hid hb2; clear hb2))
      go_ret2
      exact RetL.mk HF.out (Ints.nil_ _) (bw1 (bwStep HB1.out HB2.out))
    | true =>
      have HX := Lib.hid hx
      have hnx : n = xs.length := hq.hn
      by_cases hbig : 4096 < n
      · have HF : Hid (fromRes c s p xs = ([], 4)) := by show _ = _; unfold fromRes; rw [hv, hx, ← hnx]; rw [if_pos hbig]; rfl
        have hn63 : n ≤ 9223372036854775807 := hq.hm
        clear hx hv hq hbx hnx
        go_enter Tryz.func153, Tryz.ntmps153
        go_wp2_with (first
          | (go_at_call 154; refine (pvalid0 c s p _ hp).mono ?_; rintro e w1 ⟨rfl, hb1⟩; rw [HV.out]; have HB1 := Lib.hid hb1; clear hb1; obtain ⟨f0, f1, f2⟩ := HC.out _ HB1.out)
          | (go_at_call 190; refine (EQ.out _ HB1.out).mono ?_; rintro e w2 ⟨rfl, hb2⟩; rw [HX.out]; have HB2 := Lib.hid hb2; clear hb2 f0 f1 f2))
        go_ret2
        exact RetL.mk HF.out (Ints.nil_ _) (bw1 (bwStep HB1.out HB2.out))
      · obtain ⟨C, S, P, rfl, rfl, rfl, hvf⟩ := vld_nat hv
        obtain ⟨a, rfl, hla⟩ := inB_nat (by have := hvf.two_le; omega) hx
        have hnn : n = a.length := hnx.trans (zl_length a)
        have HF : Hid (fromRes C S P (zl a) = (zl (fromL S P a n), 0)) := by show _ = _; unfold fromRes; rw [hv, hx, ← hnx]; rw [if_neg hbig, nl_zl]; rfl
        have hn7 : n ≤ 4096 := by omega
        have hd : decide ((4096 : Int) < (n : Int)) = false := by simp; omega
        have HVF := Lib.hid hvf
        have HLA := Lib.hid hla
        have HNN := Lib.hid hnn
        clear hx hv hq hbx hnx hvf hla hnn hbig
        go_enter Tryz.func153, Tryz.ntmps153
        go_wp2_with (first
          | (go_at_call 154; refine (pvalid0 C S P _ hp).mono ?_; rintro e w1 ⟨rfl, hb1⟩; rw [HV.out]; have HB1 := Lib.hid hb1; clear hb1; obtain ⟨f0, f1, f2⟩ := HC.out _ HB1.out)
          | (go_at_call 190; refine (EQ.out _ HB1.out).mono ?_; rintro e w2 ⟨rfl, hb2⟩; rw [HX.out]; have HB2 := Lib.hid (bwStep HB1.out hb2); clear hb2 f0 f1 f2; obtain ⟨g0, g1, g2⟩ := HC.out _ HB2.out)
          | (go_at_call 155; refine (newA_any C S P _ HVF.out).mono ?_; rintro e w3 ⟨be, bl, rfl, ht, hb3⟩; have HT := Lib.hid ht; have HB3 := Lib.hid hb3; clear ht hb3 g0 g1 g2))
        clear hd
        have HX0 : Hid (CellsAt ((w3.alloc (arc C S be bl)).alloc (.cells #[.int .i64 1] 3)) w3.heap.size (arcv C S be bl)) := (CellsAt.new _ _ _ _ rfl).alloc _
        have HT0 : Hid (TabAt ((w3.alloc (arc C S be bl)).alloc (.cells #[.int .i64 1] 3)) S P be bl) := (HT.out.alloc _).alloc _
        have HQ0 : Hid (RD ((w3.alloc (arc C S be bl)).alloc (.cells #[.int .i64 1] 3)) A (zl a)) := (((HQ.out.below HB2.out).below HB3.out).rd.alloc _).alloc _
        have HI0 : Hid (Ints ((w3.alloc (arc C S be bl)).alloc (.cells #[.int .i64 1] 3)) (.slice (some ⟨w3.heap.size + 1, 0, none⟩) 1 1) (zl (fromL S P a 0))) := Ints.lit _ [1] 3 _ 1 (by simp) rfl (by omega)
        have HBF : Hid (Below w.heap.size w ((w3.alloc (arc C S be bl)).alloc (.cells #[.int .i64 1] 3))) := bwAlloc (bwAlloc (bw1 (bwStep HB2.out HB3.out)) _) _
        clear HB1 HB2 HB3 HT HQ CB HC EQ HV HX
        generalize (w3.alloc (arc C S be bl)).alloc (.cells #[.int .i64 1] 3) = W0 at *
        generalize w3.heap.size = rb at *
        go_loopw [7, 27] (fun pv iv wr => ∃ k : Nat, k ≤ n ∧ iv = .int .i64 k ∧ Hid (Abv W0 wr) ∧ Hid (Ints wr pv (zl (fromL S P a k)))) (fun _ iv _ => n - (intOf iv).toNat)
        case atStart => exact ⟨0, Nat.zero_le _, rfl, Below.refl _ _, HI0⟩
        case round =>
          obtain ⟨k, hk, rfl, hA, hP⟩ := hrel
          by_cases hlt : k < n
          · obtain ⟨A2, n2, c2, rfl, hn2, -, -, hrd2⟩ := hP.out.n
            obtain ⟨ad, rfl, hadw, hca⟩ := HQ0.out (by rw [zl_length, ← HNN.out]; omega)
            have hx : wr.cell? (ad.add k) = some (.int .i64 ((a.getD k 0 : Nat) : Int)) := by
              rw [hA.out.cell (by rw [block_of_add]; exact hadw), hca k (by rw [zl_length, ← HNN.out]; exact hlt), zl_getD]
            have HX1 : Hid (a.getD k 0 < S) := HLA.out k
            have HST : Hid (fromL S P a (k + 1) = extL S P (fromL S P a k) (a.getD k 0) 0) := rfl
            generalize a.getD k 0 = x1 at *
            obtain ⟨r0, r1, r2, r3⟩ := arcv_cells (HX0.out.below hA.out)
            have HN2 := Lib.hid hn2
            have HRD2 := Lib.hid hrd2
            have HL2 : Hid ((fromL S P a k).length ≤ 8193) := by show _ ≤ _; rw [fromL_length]; omega
            have HLT : Hid (LtAll S (fromL S P a k)) := fromL_lt HVF.out HLA.out k
            have HS2 : Hid (0 < S) := by have := HVF.out.two_le; show _ < _; omega
            clear hn2 hrd2 hca
            go_wp2_with (go_at_call 191; refine (aextend_n C S P be bl x1 0 (fromL S P a k) n2 HN2.out A2 c2 _ HVF.out HLT.out HX1.out HS2.out HL2.out (HT0.out.below hA.out) HRD2.out).mono ?_; rintro e w7 ⟨v7, rfl, hI7, hb7⟩; have HI7 := Lib.hid hI7; have HB7 := Lib.hid hb7; clear hI7 hb7)
            exact ⟨⟨k + 1, by omega, by go_num, bwStep hA.out HB7.out, by rw [HST.out]; exact HI7.out⟩, by simp [intOf]; omega⟩
          · obtain rfl : k = n := by omega
            go_wp2
            go_ret2
            exact RetL.mk HF.out hP.out (bwStep HBF.out hA.out)
end Go.Proofs.YtmnlkganmgcpbaaGreatDoor
