import Derived.Test.YtmnlkganmgcpbaaGreatDoorQa22
namespace Go.Proofs.YtmnlkganmgcpbaaGreatDoor
set_option linter.unusedVariables false
set_option linter.unusedSectionVars false
open Fl
section
variable {K : Type} [Fl K]
def mx (r : K) (f : Nat → K) : Nat → K := fun n => sh f n - r * f n
theorem mx_sup {r : K} {f : Nat → K} {d : Nat} (h : Sup d f) : Sup (d + 1) (mx r f) := by
  intro i hi
  obtain ⟨i, rfl⟩ : ∃ k, i = k + 1 := ⟨i - 1, by omega⟩
  show f i - r * f (i + 1) = 0
  rw [h i (by omega), h (i + 1) (by omega), fmul_zero, fsub_self]
theorem evs_sh (x : K) (f : Nat → K) (n : Nat) : evs x (sh f) (n + 1) = x * evs x f n := by
  rw [evs_succ]
  show 0 + x * evs x (tlS (sh f)) n = _
  rw [fzero_add]; rfl
theorem evs_mx {x r : K} {f : Nat → K} {d : Nat} (h : Sup d f) : evs x (mx r f) (d + 1) = (x - r) * evs x f d := by
  rw [show evs x (mx r f) (d + 1) = evs x (fun k => sh f k - r * f k) (d + 1) from rfl, evs_sub x (sh f) (fun k => r * f k), evs_sh, evs_smul, evs_ext h (Nat.le_succ d), fsub_mul]
theorem cst_sup (r : K) : Sup 1 (cst r) := fun i hi => by unfold cst; rw [if_neg (by omega)]
theorem evs_cst (x r : K) : evs x (cst r) 1 = r := by
  rw [evs_succ]
  show r + x * 0 = r
  rw [fmul_zero, fadd_zero]
def rv (n : Nat) (g : Nat → K) : Nat → K := fun j => if j < n then g (n - 1 - j) else 0
theorem rv_sup (n : Nat) (g : Nat → K) : Sup n (rv n g) := fun i hi => by unfold rv; rw [if_neg (by omega)]
theorem add_sub_can (a b : K) : a + b - b = a := by rw [fsub_def, fadd_assoc, ← fsub_def, fsub_self, fadd_zero]
end
def prevN (l : List Nat) (c j : Nat) : Nat := if j = 0 then c else l.getD (j - 1) 0
theorem getD_set_eq {l : List Nat} {i v : Nat} (hi : i < l.length) : (l.set i v).getD i 0 = v := by simp [List.getD, hi]
theorem getD_set_ne' {l : List Nat} {i j v : Nat} (h : i ≠ j) : (l.set i v).getD j 0 = l.getD j 0 := by simp [List.getD, List.getElem?_set_ne h]
theorem eL_getD (s p : Nat) (l : List Nat) (r c k : Nat) (hk : k ≤ l.length) (j : Nat) :
    (eL s p l r c k).getD j 0 = if j < k then fsubN s p (prevN l c j) (fmulN s p (l.getD j 0) r) else if j = k then prevN l c j else 0 := by
  induction k generalizing j with
  | zero =>
    show ((List.replicate (l.length + 1) 0).set 0 c).getD j 0 = _
    rw [if_neg (by omega)]
    by_cases h : j = 0
    · subst h; rw [if_pos rfl, getD_set_eq (by simp)]; rfl
    · rw [if_neg h, getD_set_ne' (by omega)]
      by_cases h2 : j < l.length + 1
      · simp [List.getD, h2]
      · simp [List.getD, h2]
  | succ k ih =>
    have ih := ih (by omega)
    have hlen := eL_length s p l r c k
    show (((eL s p l r c k).set k (fsubN s p ((eL s p l r c k).getD k 0) (fmulN s p (l.getD k 0) r))).set (k + 1) (l.getD k 0)).getD j 0 = _
    by_cases h1 : j = k + 1
    · subst h1
      rw [getD_set_eq (by rw [List.length_set, hlen]; omega), if_neg (by omega), if_pos rfl]
      rfl
    · rw [getD_set_ne' (Ne.symm h1)]
      by_cases h2 : j = k
      · subst h2
        rw [getD_set_eq (by rw [hlen]; omega), if_pos (by omega), ih j, if_neg (by omega), if_pos rfl]
      · rw [getD_set_ne' (Ne.symm h2), ih j]
        by_cases h3 : j < k
        · rw [if_pos h3, if_pos (by omega)]
        · rw [if_neg h3, if_neg h2, if_neg (by omega), if_neg h1]
theorem eL_top (s p : Nat) (l : List Nat) (r c k : Nat) (hk : k < l.length) : (eL s p l r c (k + 1)).getD (k + 1) 0 = l.getD k 0 := by
  show (((eL s p l r c k).set k _).set (k + 1) (l.getD k 0)).getD (k + 1) 0 = _
  rw [List.getD, List.getElem?_set_self (by rw [List.length_set, eL_length]; omega)]
  rfl
theorem fromL_top (s p : Nat) (roots : List Nat) : ∀ k, (fromL s p roots k).getD k 0 = 1 := by
  intro k
  induction k with
  | zero => rfl
  | succ k ih =>
    show (extL s p (fromL s p roots k) (roots.getD k 0) 0).getD (k + 1) 0 = 1
    unfold extL
    have hl := fromL_length s p roots k
    rw [hl, eL_top _ _ _ _ _ _ (by omega), ih]
structure IsEnc (s p par first : Nat) (data w : List Nat) : Prop where
  lt : LtAll s w
  ln : w.length = data.length + par
  pre : ∀ i, i < data.length → w.getD i 0 = data.getD i 0
  cw : ∀ j, j < par → synd s p first w j = 0
noncomputable def encShift (par : Nat) (data : List Nat) : List Nat := (List.range (data.length + par)).map fun j => if j < par then 0 else data.getD (data.length + par - 1 - j) 0
noncomputable def encRest (s p par first : Nat) (data : List Nat) : List Nat := divRest s p (trimL (encShift par data)) (genL s p first par)
noncomputable def encW (s p par first : Nat) (data : List Nat) : List Nat := (List.range (data.length + par)).map fun j => if j < data.length then data.getD j 0 else fsubN s p 0 ((encRest s p par first data).getD (data.length + par - 1 - j) 0)
theorem encShift_length (par : Nat) (data : List Nat) : (encShift par data).length = data.length + par := by unfold encShift; simp
theorem encW_length (s p par first : Nat) (data : List Nat) : (encW s p par first data).length = data.length + par := by unfold encW; simp
section
variable {c s p : Nat} (h : VF c s p)
def vl (x : KF h) (l : List Nat) : KF h := evs x (co h l) l.length
include h
theorem vl_of (x : KF h) {l : List Nat} {n : Nat} (hn : l.length ≤ n) : evs x (co h l) n = vl h x l := evs_ext (co_sup h l) hn
theorem vl_congr {x : KF h} {l : List Nat} {f : Nat → KF h} (e : ∀ i, co h l i = f i) {n : Nat} (hf : Sup n f) : vl h x l = evs x f n := by
  have e1 : evs x (co h l) (max n l.length) = evs x f (max n l.length) := evs_congr fun i _ => e i
  rw [← vl_of h x (Nat.le_max_right n l.length), e1, evs_ext hf (Nat.le_max_left _ _)]
theorem horn_vl {x : Nat} (hx : x < s) {l : List Nat} (hl : LtAll s l) : mkK h (hornN s p x l) = vl h (mkK h x) l := horn_co h hx l (ltAll_mem hl)
theorem prev_co {l : List Nat} (c j : Nat) : mkK h (prevN l c j) = sh (co h l) j + cst (mkK h c) j := by
  unfold prevN
  cases j with
  | zero => rw [if_pos rfl]; show _ = 0 + mkK h c; rw [fzero_add]
  | succ j => rw [if_neg (by omega)]; show mkK h (l.getD j 0) = co h l j + 0; rw [fadd_zero]; rfl
theorem co_extL {l : List Nat} (hl : LtAll s l) {r c : Nat} (hr : r < s) (hc : c < s) (j : Nat) : co h (extL s p l r c) j = mx (mkK h r) (co h l) j + cst (mkK h c) j := by
  have hpl : ∀ j, prevN l c j < s := fun j => by
    unfold prevN; split
    · exact hc
    · exact hl _
  have e0 : mx (mkK h r) (co h l) j + cst (mkK h c) j = mkK h (prevN l c j) - mkK h r * co h l j := by
    rw [prev_co]
    show sh (co h l) j - _ + _ = _
    simp only [fsub_def]
    ac_rfl
  rw [e0]
  show mkK h ((extL s p l r c).getD j 0) = _
  unfold extL
  rw [eL_getD _ _ _ _ _ _ (Nat.le_refl _)]
  by_cases h1 : j < l.length
  · rw [if_pos h1, mkK_sub h (hpl j) (fmul_lt h _ _), mkK_mul h (hl j) hr, fmul_comm]; rfl
  · rw [if_neg h1, co_sup h l j (by omega), fmul_zero, fsub_zero]
    by_cases h2 : j = l.length
    · rw [if_pos h2]
    · rw [if_neg h2, mkK_zero]
      unfold prevN
      rw [if_neg (by omega), getD_ge (by omega), mkK_zero]
theorem vl_extL {l : List Nat} (hl : LtAll s l) {r c : Nat} (hr : r < s) (hc : c < s) (x : KF h) : vl h x (extL s p l r c) = (x - mkK h r) * vl h x l + mkK h c := by
  rw [vl_congr h (co_extL h hl hr hc) (n := l.length + 1) (fun i hi => by
    show mx (mkK h r) (co h l) i + cst (mkK h c) i = 0
    rw [mx_sup (co_sup h l) i hi, cst_sup (mkK h c) i (by omega), fadd_zero])]
  rw [evs_add, evs_mx (co_sup h l), evs_ext (cst_sup (mkK h c)) (by omega), evs_cst]
  rfl
theorem vl_fromL_succ {roots : List Nat} (hr : LtAll s roots) (k : Nat) (x : KF h) : vl h x (fromL s p roots (k + 1)) = (x - mkK h (roots.getD k 0)) * vl h x (fromL s p roots k) := by
  show vl h x (extL s p (fromL s p roots k) (roots.getD k 0) 0) = _
  rw [vl_extL h (fromL_lt h hr k) (hr k) (by have := h.two_le; omega), mkK_zero, fadd_zero]
theorem vl_fromL_zero (roots : List Nat) (x : KF h) : vl h x (fromL s p roots 0) = 1 := by
  show evs x (co h [1]) 1 = 1
  rw [evs_succ]
  show mkK h 1 + x * 0 = 1
  rw [mkK_one, fmul_zero, fadd_zero]
theorem root_from {roots : List Nat} (hr : LtAll s roots) {x : Nat} (hx : x < s) : ∀ k, hornN s p x (fromL s p roots k) = 0 ↔ ∃ i, i < k ∧ roots.getD i 0 = x := by
  have e : ∀ k, hornN s p x (fromL s p roots k) = 0 ↔ vl h (mkK h x) (fromL s p roots k) = 0 := fun k => by
    rw [← horn_vl h hx (fromL_lt h hr k)]
    constructor
    · intro e; rw [e, mkK_zero]
    · intro e
      rw [← mkK_zero h] at e
      exact mkK_inj h (hornN_lt h x _ (ltAll_mem (fromL_lt h hr k))) (by have := h.two_le; omega) e
  intro k
  rw [e]
  induction k with
  | zero =>
    rw [vl_fromL_zero]
    constructor
    · intro e1; exact absurd e1 (fun e2 => by
        rw [← mkK_one h, ← mkK_zero h] at e2
        have := mkK_inj h (by have := h.two_le; omega) (by have := h.two_le; omega) e2
        omega)
    · rintro ⟨i, hi, _⟩; omega
  | succ k ih =>
    rw [vl_fromL_succ h hr]
    constructor
    · intro e1
      rcases fnzd e1 with e2 | e2
      · rw [fsub_eq_zero] at e2
        exact ⟨k, by omega, (mkK_inj h hx (hr k) e2).symm⟩
      · obtain ⟨i, hi, h2⟩ := ih.1 e2
        exact ⟨i, by omega, h2⟩
    · rintro ⟨i, hi, h2⟩
      by_cases hik : i = k
      · subst hik
        rw [h2, fsub_self, fzero_mul]
      · rw [ih.2 ⟨i, by omega, h2⟩, fmul_zero]
theorem frn_evs {x : Nat} (hx : x < s) {w : List Nat} (hw : LtAll s w) : ∀ k, mkK h (frnN s p x w k) = evs (mkK h x) (rv k (co h w)) k
  | 0 => mkK_zero h
  | k + 1 => by
    show mkK h (faddN s p (fmulN s p (frnN s p x w k) x) (w.getD k 0)) = rv (k + 1) (co h w) 0 + mkK h x * evs (mkK h x) (tlS (rv (k + 1) (co h w))) k
    have e1 : rv (k + 1) (co h w) 0 = co h w k := by unfold rv; rw [if_pos (by omega)]; rfl
    have e2 : evs (mkK h x) (tlS (rv (k + 1) (co h w))) k = evs (mkK h x) (rv k (co h w)) k := evs_congr fun i hi => by
      show rv (k + 1) (co h w) (i + 1) = _
      unfold rv
      rw [if_pos (by omega), if_pos hi, show k + 1 - 1 - (i + 1) = k - 1 - i from by omega]
    rw [mkK_add h (fmul_lt h _ _) (hw k), mkK_mul h (frn_lt h hw k) hx, frn_evs hx hw k, e1, e2, fadd_comm, fmul_comm]
    rfl
theorem gen_lt' (first par : Nat) : LtAll s (genL s p first par) := fromL_lt h (rooL_lt h first par) par
omit h in
theorem gen_length (first par : Nat) : (genL s p first par).length = par + 1 := fromL_length _ _ _ _
omit h in
theorem gen_top (first par : Nat) : (genL s p first par).getD par 0 = 1 := fromL_top _ _ _ _
theorem gen_root (first par : Nat) {j : Nat} (hj : j < par) : evs (mkK h (apw s p (first + j))) (co h (genL s p first par)) (par + 1) = 0 := by
  have h1 : hornN s p (apw s p (first + j)) (genL s p first par) = 0 := (root_from h (rooL_lt h first par) (apw_lt h _) par).2 ⟨j, hj, by unfold rooL; exact getD_map_range _ _ _ hj⟩
  have h2 := horn_vl h (apw_lt h (first + j)) (gen_lt' h first par)
  rw [h1, mkK_zero] at h2
  unfold vl at h2
  rw [gen_length] at h2
  exact h2.symm
theorem encShift_lt {par : Nat} {data : List Nat} (hd : LtAll s data) : LtAll s (encShift par data) := ltAll_map h fun i _ => by
  split
  · have := h.two_le; omega
  · exact hd _
theorem encRest_lt {par first : Nat} {data : List Nat} (hd : LtAll s data) : LtAll s (encRest s p par first data) := divRest_lt h (ltAll_trim (encShift_lt h hd))
theorem encRest_length {par first : Nat} {data : List Nat} (hd : LtAll s data) : (encRest s p par first data).length ≤ par := by
  have := divRest_length h (a := trimL (encShift par data)) (b := genL s p first par) (ltAll_trim (encShift_lt h hd)) (gen_lt' h first par) (by rw [gen_length]; omega) (by rw [gen_length, Nat.add_sub_cancel, gen_top]; omega)
  rw [gen_length] at this
  unfold encRest
  omega
theorem encW_lt {par first : Nat} {data : List Nat} (hd : LtAll s data) : LtAll s (encW s p par first data) := ltAll_map h fun i _ => by
  split
  · exact hd _
  · exact subN_lt h (by have := h.two_le; omega) (encRest_lt h hd _)
theorem encW_is {par first : Nat} {data : List Nat} (hd : LtAll s data) : IsEnc s p par first data (encW s p par first data) := by
  refine ⟨encW_lt h hd, encW_length _ _ _ _ _, fun i hi => ?_, fun j hj => ?_⟩
  · unfold encW
    rw [getD_map_range _ _ _ (by omega), if_pos hi]
  · have hx := apw_lt h (first + j)
    rw [← mkK_eq_zero h (synd_lt h (encW_lt h hd) j)]
    unfold synd
    rw [frn_evs h hx (encW_lt h hd), encW_length]
    have hb0 : (genL s p first par).getD ((genL s p first par).length - 1) 0 ≠ 0 := by rw [gen_length, Nat.add_sub_cancel, gen_top]; omega
    have e : ∀ t, rv (data.length + par) (co h (encW s p par first data)) t = conv (co h (divQ s p (trimL (encShift par data)) (genL s p first par))) (co h (genL s p first par)) t := by
      intro t
      have hdv := div_eq h (a := trimL (encShift par data)) (b := genL s p first par) (ltAll_trim (encShift_lt h hd)) (gen_lt' h first par) (by rw [gen_length]; omega) t
      rw [co_trim] at hdv
      have e1 : rv (data.length + par) (co h (encW s p par first data)) t = co h (encShift par data) t - co h (encRest s p par first data) t := by
        unfold rv
        by_cases ht : t < data.length + par
        · rw [if_pos ht]
          show mkK h ((encW s p par first data).getD (data.length + par - 1 - t) 0) = mkK h ((encShift par data).getD t 0) - _
          unfold encW encShift
          rw [getD_map_range _ _ _ (by omega), getD_map_range _ _ _ ht]
          by_cases h2 : t < par
          · rw [if_neg (by omega), if_pos h2, mkK_sub h (by have := h.two_le; omega) (encRest_lt h hd _), show data.length + par - 1 - (data.length + par - 1 - t) = t from by omega]
            rfl
          · rw [if_pos (by omega), if_neg h2, co_sup h _ t (by have := encRest_length h (par := par) (first := first) hd; omega), fsub_zero]
        · rw [if_neg ht, co_sup h _ t (by rw [encShift_length]; omega), co_sup h _ t (by have := encRest_length h (par := par) (first := first) hd; omega), fsub_self]
      rw [e1, hdv]
      exact add_sub_can _ _
    have hS : Sup (data.length + par) (conv (co h (divQ s p (trimL (encShift par data)) (genL s p first par))) (co h (genL s p first par))) := fun i hi => by rw [← e i]; exact rv_sup _ _ i hi
    rw [evs_congr fun i _ => e i, ← evs_ext hS (m := (data.length + par + (divQ s p (trimL (encShift par data)) (genL s p first par)).length) + (par + 1)) (by omega),
      evs_conv ((co_sup h _).mono (by omega)) ((co_sup h _).mono (by rw [gen_length]; exact Nat.le_refl _)), gen_root h first par hj, fmul_zero]
end
end Go.Proofs.YtmnlkganmgcpbaaGreatDoor
namespace Go.Proofs.YtmnlkganmgcpbaaGreatDoor
open Go.RowKit
set_option linter.unusedVariables false
set_option linter.unusedSectionVars false
set_option maxRecDepth 100000 in
theorem copy_made (W : World) (T n ca : Nat) (ad : Addr) (a : List Nat) (hn : n = a.length) (hnT : n ≤ T) (hadw : ad.block < W.heap.size) (hca : ∀ j, j < (zl a).length → W.cell? (ad.add j) = some (.int .i64 ((zl a).getD j 0))) :
    ∃ W2, (Builtin.copy_ #[64, 64] 3 #[.slice (some ⟨W.heap.size, 0, none⟩) T T, .slice (some ad) n ca]).run Tryz.prog (W.alloc (.cells (madeCells #[.int .i64 0] T) 3)) = .ok (goInt n) W2 ∧ RowAt W2 W.heap.size (a ++ List.replicate (T - n) 0) ∧ Below W.heap.size W W2 := by
  have hnl : n = ((zl a).map (Value.int .i64)).length := by rw [List.length_map, zl_length]; exact hn
  have HCUR : (madeCells #[Value.int .i64 0] T) = (List.replicate T (Value.int .i64 0)).toArray := by
    apply Array.ext'
    rw [toList_madeCells_one]
  have hWb : Below W.heap.size W (W.alloc (.cells (madeCells #[.int .i64 0] T) 3)) := bwA _ _
  have hG : (W.alloc (.cells (madeCells #[.int .i64 0] T) 3)).heap[W.heap.size]? = some (.cells (List.replicate T (Value.int .i64 0)).toArray 3 (0, 0)) := by
    rw [← HCUR]
    exact heap_alloc_new W (.cells (madeCells #[Value.int .i64 0] T) 3)
  have hcp := run_copy_row (P := Tryz.prog) (W.alloc (.cells (madeCells #[.int .i64 0] T) 3)) 64 64 3 3 W.heap.size 0 T T ad n ca _ _ ((zl a).map (Value.int .i64)) Tryz.underlying64 intSz1 hG (by rw [← hnl]; exact (Nat.min_eq_left hnT).symm) (fun j v hj => by
    rw [List.getElem?_map] at hj
    obtain ⟨x, hx, rfl⟩ := Option.map_eq_some_iff.1 hj
    have hjl := (List.getElem?_eq_some_iff.1 hx).1
    rw [hWb.cell (by rw [block_of_add]; exact hadw), hca j hjl]
    simp [List.getD, hx]) (by rw [← hnl]; simp; omega) (zl_one a)
  rw [← hnl] at hcp
  have hsp : (List.take 0 (List.replicate T (Value.int .i64 0)).toArray.toList ++ (zl a).map (Value.int .i64) ++ List.drop (0 + n) (List.replicate T (Value.int .i64 0)).toArray.toList).toArray = cellsN (a ++ List.replicate (T - n) 0) := by
    unfold cellsN
    apply congrArg
    rw [List.take_zero, List.nil_append, List.map_append, Nat.zero_add, List.drop_replicate, List.map_replicate]
    congr 1
    unfold zl
    rw [List.map_map]; rfl
  rw [hsp] at hcp
  exact ⟨_, hcp, RowAt.of_heap (setRow_heap _ _ _ _ _ _ hG), hWb.trans (below_setRow (Below.refl _ _) (Nat.le_refl _) _)⟩
def shA (N : Nat) (data : List Nat) (i : Nat) : List Nat := (List.range N).map fun j => if N - 1 - j < i then data.getD (N - 1 - j) 0 else 0
theorem shA_length (N : Nat) (data : List Nat) (i : Nat) : (shA N data i).length = N := by unfold shA; simp
theorem shA_zero (N : Nat) (data : List Nat) : shA N data 0 = List.replicate N 0 := by
  refine list_getD_ext (by rw [shA_length, List.length_replicate]) fun j hj => ?_
  rw [shA_length] at hj
  unfold shA
  rw [getD_map_range _ _ _ hj, if_neg (by omega)]
  simp [List.getD, hj]
theorem shA_step (N : Nat) (data : List Nat) (i : Nat) (hi : i < N) : (shA N data i).set (N - 1 - i) (data.getD i 0) = shA N data (i + 1) := by
  unfold shA
  rw [set_map_range _ _ _ _ (by omega)]
  apply List.map_congr_left
  intro j hj
  have hj := List.mem_range.1 hj
  by_cases e : j = N - 1 - i
  · rw [if_pos e, if_pos (by omega), show N - 1 - j = i from by omega]
  · rw [if_neg e]
    by_cases h1 : N - 1 - j < i
    · rw [if_pos h1, if_pos (by omega)]
    · rw [if_neg h1, if_neg (by omega)]
theorem shA_end (par : Nat) (data : List Nat) : shA (data.length + par) data data.length = encShift par data := by
  unfold shA encShift
  apply List.map_congr_left
  intro j hj
  have hj := List.mem_range.1 hj
  by_cases h1 : j < par
  · rw [if_pos h1, if_neg (by omega)]
  · rw [if_neg h1, if_pos (by omega)]
noncomputable def wrA (s p N : Nat) (data rest : List Nat) (i : Nat) : List Nat := (List.range N).map fun j => if N - 1 - j < i then fsubN s p 0 (rest.getD (N - 1 - j) 0) else if j < data.length then data.getD j 0 else 0
theorem wrA_length (s p N : Nat) (data rest : List Nat) (i : Nat) : (wrA s p N data rest i).length = N := by unfold wrA; simp
theorem wrA_zero (s p N : Nat) (data rest : List Nat) (hN : data.length ≤ N) : data ++ List.replicate (N - data.length) 0 = wrA s p N data rest 0 := by
  refine list_getD_ext (by rw [wrA_length, List.length_append, List.length_replicate]; omega) fun j hj => ?_
  rw [List.length_append, List.length_replicate] at hj
  unfold wrA
  rw [getD_map_range _ _ _ (by omega), if_neg (by omega)]
  by_cases h1 : j < data.length
  · rw [if_pos h1]
    simp [List.getD, List.getElem?_append_left h1]
  · rw [if_neg h1]
    simp [List.getD, List.getElem?_append_right (show data.length ≤ j from by omega), show j - data.length < N - data.length from by omega]
theorem wrA_step (s p N : Nat) (data rest : List Nat) (i : Nat) (hi : i < N) : (wrA s p N data rest i).set (N - 1 - i) (fsubN s p 0 (rest.getD i 0)) = wrA s p N data rest (i + 1) := by
  unfold wrA
  rw [set_map_range _ _ _ _ (by omega)]
  apply List.map_congr_left
  intro j hj
  have hj := List.mem_range.1 hj
  by_cases e : j = N - 1 - i
  · rw [if_pos e, if_pos (by omega), show N - 1 - j = i from by omega]
  · rw [if_neg e]
    by_cases h1 : N - 1 - j < i
    · rw [if_pos h1, if_pos (by omega)]
    · rw [if_neg h1, if_neg (show ¬ N - 1 - j < i + 1 by omega)]
theorem wrA_end {c s p : Nat} (h : VF c s p) {par first : Nat} {data : List Nat} (hd : LtAll s data) : wrA s p (data.length + par) data (encRest s p par first data) (encRest s p par first data).length = encW s p par first data := by
  have hl := encRest_length h (par := par) (first := first) hd
  unfold wrA encW
  apply List.map_congr_left
  intro j hj
  have hj := List.mem_range.1 hj
  by_cases h1 : j < data.length
  · rw [if_pos h1, if_neg (by omega), if_pos h1]
  · rw [if_neg h1, if_neg h1]
    by_cases h2 : data.length + par - 1 - j < (encRest s p par first data).length
    · rw [if_pos h2]
    · rw [if_neg h2, getD_ge (by omega)]
      exact (mkK_inj h (subN_lt h (by have := h.two_le; omega) (by have := h.two_le; omega)) (by have := h.two_le; omega) (by rw [mkK_sub h (by have := h.two_le; omega) (by have := h.two_le; omega), fsub_self, mkK_zero])).symm
end Go.Proofs.YtmnlkganmgcpbaaGreatDoor
namespace Go.Proofs.YtmnlkganmgcpbaaGreatDoor
open Go.RowKit
set_option linter.unusedVariables false
set_option linter.unusedSectionVars false
theorem gDivMod_yes (C S P : Nat) (a b : List Nat) (v u : Value) (w : World) (h : VF C S P) (ha : LtAll S a) (ta : Trimmed a) (na : a.length ≤ 4097) (hb : LtAll S b) (tb : Trimmed b) (nb : b.length ≤ 4097) (hne : b ≠ []) (hv : Ints w v (zl a)) (hu : Ints w u (zl b)) :
    Calls Tryz.prog 115 #[fldv C S P, v, u] w fun e w' => ∃ x y, e = .returned (.tuple #[x, y, .int .i64 0]) ∧ Ints w' y (zl (divRest S P a b)) ∧ Below w.heap.size w w' := by
  obtain ⟨q, rfl, hq, hqx⟩ := hv.sl
  obtain ⟨r, rfl, hr, hrx⟩ := hu.sl
  have := pDivMod_any C S P q r w h.pbd hq hr
  rw [hqx, hrx] at this
  refine this.mono ?_
  rintro e w' ⟨x, y, he, hx, hy, hbb⟩
  have e1 : divRes C S P (zl a) (zl b) = (zl (divQ S P a b), zl (divRest S P a b), 0) := by
    unfold divRes
    rw [show pvB C S P (zl a) = true from by unfold pvB; rw [vld_of h, polB_zl ha na ta]; rfl, show pvB C S P (zl b) = true from by unfold pvB; rw [vld_of h, polB_zl hb nb tb]; rfl, nl_zl, nl_zl, if_neg (fun e => hne (zl_nil e))]; rfl
  rw [e1] at he hy
  exact ⟨x, y, he, hy, hbb⟩
theorem gSub0_yes (C S P x : Nat) (w : World) (h : VF C S P) (hx : x < S) :
    Calls Tryz.prog 117 #[fldv C S P, .int .i64 0, .int .i64 x] w fun e w' => e = .returned (.tuple #[.int .i64 ((fsubN S P 0 x : Nat) : Int), .int .i64 0]) ∧ Below w.heap.size w w' := by
  have := Sub_any C S P 0 x w (by have := h.le; omega) h.pbd
  refine this.mono fun e w' hh => ⟨?_, hh.2⟩
  rw [hh.1]
  have e1 : subR C S P 0 x = (((fsubN S P 0 x : Nat) : Int), 0) := by
    unfold subR
    have := ok2_of h (A := 0) (B := x) (by have := h.two_le; omega) hx
    rw [if_pos (by simpa using this)]
    simp
  rw [e1]
set_option maxRecDepth 100000 in
set_option maxHeartbeats 4000000 in
theorem qEncode_yes (C S P par first : Nat) (data : List Nat) (m : Nat) (A : Option Addr) (ca : Nat) (w : World) (h : CodeOk C S P par first) (hm : m = data.length) (hl : LtAll S data) (h1 : 1 ≤ m) (h2 : m + par ≤ S - 1) (ha : RD w A (zl data)) :
    Calls Tryz.prog 62 #[codv C S P par first, .slice A m ca] w (RetL w (zl (encW S P par first data), 0)) := by
  obtain ⟨i0, hi, hz0, hz1, hz2⟩ := info_parts intInfo
  have hO := Lib.hid h
  obtain ⟨s3, s4⟩ := h.s3
  have hp1 := h.p1
  have CF := codP_box w C S P par first
  have hfin : Hid (Below w.heap.size w (w.alloc (codO C S P par first))) := (Below.refl _ _).alloc (Nat.le_refl _) _
  obtain ⟨N, hN⟩ : ∃ N, m + par = N := ⟨_, rfl⟩
  have hNN : (m : Int) + (par : Int) = (N : Int) := by omega
  have hN4 : N ≤ 4095 := by omega
  have hNm : m ≤ N := by omega
  obtain ⟨ad, rfl, hadw, hca⟩ := ha (by rw [zl_length]; omega)
  have HA := Lib.hid ha
  have HADW := Lib.hid hadw
  have HL := Lib.hid hl
  have HM := Lib.hid hm
  have HN := Lib.hid hN
  have HLONG : Hid (∀ W, Calls Tryz.prog 113 #[codv C S P par first, .int .i64 N] W fun e w' => e = .returned (.bool true) ∧ Below W.heap.size W w') := fun W => qlong_yes C S P par first N W (by omega) (by omega)
  have HVAL : Hid (∀ W, Abv w W → Calls Tryz.prog 112 #[codv C S P par first, .slice (some ad) m ca] W fun e w' => e = .returned (.bool true) ∧ Below W.heap.size W w') := fun W hW => qvalid_yes C S P par first data m (some ad) ca W h hm hl (by omega) (ha.below hW)
  have hmk := run_make_row' (P := Tryz.prog) 64 3 (.int .i64 0) 8 Tryz.underlying64 intInfo rfl .i64 .i64 N (by omega) (by omega)
  have z1 : ((m : Int) == 0) = false := by rw [beq_eq_false_iff_ne]; omega
  obtain ⟨f0, f1, f2, f3, f4⟩ := CF.out _ (Below.refl _ _)
  clear h hl ha hadw hca hm hN h2
  go_enter Tryz.func62, Tryz.ntmps62
  go_wp2_with (first
    | (go_at_call 112; refine (HVAL.out _ hfin.out).mono ?_; rintro e w1 ⟨rfl, hb1⟩; have HB1 := Lib.hid hb1; clear hb1 f0 f1 f2 f3 f4; obtain ⟨f0, f1, f2, f3, f4⟩ := CF.out _ HB1.out)
    | (go_at_call 113; refine (HLONG.out _).mono ?_; rintro e w2 ⟨rfl, hb2⟩; have HB2 := Lib.hid (bwStep HB1.out hb2); clear hb2 f0 f1 f2 f3 f4; obtain ⟨f0, f1, f2, f3, f4⟩ := CF.out _ HB2.out)
    | (go_at_call 114; refine (qGenerator_yes C S P par first _ hO.out).mono ?_; rintro e w3 ⟨vG, rfl, hi3, hb3⟩; have HG3 := Lib.hid hi3; have HB3 := Lib.hid (bwStep HB2.out hb3); clear hb3 hi3 f0 f1 f2 f3 f4; obtain ⟨f0, f1, f2, f3, f4⟩ := CF.out _ HB3.out))
  clear f0 f1 f2 f3 f4 HB1 HB2 z1
  have HO0 : Hid (Below w3.heap.size w3 (w3.alloc (.cells (madeCells #[.int .i64 0] N) 3)) ∧ RowAt (w3.alloc (.cells (madeCells #[.int .i64 0] N) 3)) w3.heap.size (shA N data 0)) := by
    rw [shA_zero]
    exact ⟨bwA _ _, RowAt.made _ _ _ _ rfl⟩
  have HAT : Hid (∀ W, Abv w3 W → Abv w W) := fun W hW => bwStep (bwStep hfin.out HB3.out) hW
  go_loopw [51] (fun iv wr => ∃ i : Nat, i ≤ m ∧ iv = .int .i64 i ∧ Hid (Below w3.heap.size w3 wr ∧ RowAt wr w3.heap.size (shA N data i))) (fun iv _ => m - (intOf iv).toNat)
  case atStart => exact ⟨0, Nat.zero_le _, rfl, HO0⟩
  case round =>
    obtain ⟨i, hi, rfl, hO1⟩ := hrel
    by_cases hlt : i < m
    · obtain ⟨ad', e, hadw, hca⟩ := (HA.out.below (HAT.out _ hO1.out.1)) (by rw [zl_length, ← HM.out]; omega)
      cases e
      have hy := hca i (by rw [zl_length, ← HM.out]; exact hlt)
      rw [zl_getD] at hy
      have HST : Hid (_ = _) := shA_step N data i (by omega)
      obtain ⟨r, hr⟩ : ∃ r, r = N - 1 - i := ⟨_, rfl⟩
      have hr2 : (N : Int) - 1 - (i : Int) = (r : Int) := by omega
      have hr3 : r < N := by omega
      rw [← hr] at HST
      obtain ⟨c1, c2⟩ := hO1.out.2.2 r (by rw [shA_length]; exact hr3)
      generalize data.getD i 0 = y at *
      generalize hue : (shA N data i).getD r 0 = u at *
      clear hca hr hue hadw
      go_wp2
      exact ⟨⟨i + 1, by omega, by go_num, by rw [← HST.out]; exact ⟨hO1.out.1.setCell (Nat.le_refl _) _, hO1.out.2.set _ _⟩⟩, by simp [intOf]; omega⟩
    · have him : i = m := by omega
      subst him
      have HSH : Hid (RowAt wr w3.heap.size (encShift par data)) := by
        have := hO1.out.2
        rw [← HN.out, HM.out, shA_end] at this
        exact this
      have HAW := Lib.hid (HAT.out _ hO1.out.1)
      have HG4 : Hid (Ints wr vG (zl (genL S P first par))) := HG3.out.below hO1.out.1
      have hNL : N = (encShift par data).length := by rw [encShift_length, ← HM.out]; exact HN.out.symm
      have HNL := Lib.hid hNL
      have HC : Hid (∀ W, Abv wr W → W.cell? ⟨w.heap.size, 0, none⟩ = some (.int .i64 C) ∧ W.cell? ⟨w.heap.size, 1, none⟩ = some (.int .i64 S) ∧ W.cell? ⟨w.heap.size, 2, none⟩ = some (.int .i64 P)) := by
        show ∀ W, _
        intro W hW
        obtain ⟨h0, h1, h2, -⟩ := CF.out _ ((HB3.out.trans (hO1.out.1.mono HB3.out.size)).trans (hW.mono (Nat.le_trans HB3.out.size hO1.out.1.size)))
        exact ⟨h0, h1, h2⟩
      clear hNL HO0 HG3 HB3 HLONG HVAL CF
      go_wp2
      refine wp_region_W (S := Abv wr) [(false, 0), (false, 1), (false, 2), (false, 4), (true, 3), (true, 5), (false, 6), (false, 7), (false, 8), (false, 9), (false, 10), (false, 11), (false, 12)] (by kernel_rfl) (by kernel_rfl) (bwDrew (Below.refl _ _)) ?_
      simp only [attachW, List.getElem?_cons_zero, List.getElem?_cons_succ]
      repeat
        refine' wpHX_val rfl (fun W hW => ?_) ?_
        rotate_left
        · have hcf := HC.out W hW; go_simp; rfl
        simp only [Act.put, List.setIfInBounds_toArray, List.set_cons_zero, List.set_cons_succ]
      refine' wpHX_acall rfl (fun W => ?_) ?_
      rotate_left 2
      · go_simp; exact ⟨rfl, rfl⟩
      refine (Trim_n (encShift par data) N HNL.out _ N _ (by omega) (Nat.le_refl _) (HSH.out.below (bwDrew (Below.refl _ _))).rd).mono ?_
      rintro e w5 ⟨v5, rfl, hi5, hb5⟩
      have HI5 := Lib.hid hi5
      have HB5 : Hid (Abv wr w5) := bwStep (bwDrew (Below.refl _ _)) hb5
      clear hi5 hb5
      refine ⟨_, rfl, HB5.out, ?_⟩
      simp only [Act.put, List.setIfInBounds_toArray, List.set_cons_zero, List.set_cons_succ]
      repeat
        refine' wpHX_val rfl (fun W hW => ?_) ?_
        rotate_left
        · have hcf := HC.out W hW; go_simp; rfl
        simp only [Act.put, List.setIfInBounds_toArray, List.set_cons_zero, List.set_cons_succ]
      refine' wpHX_acall rfl (fun W => ?_) ?_
      rotate_left 2
      · go_simp; exact ⟨rfl, rfl⟩
      refine (gDivMod_yes C S P (trimL (encShift par data)) (genL S P first par) v5 vG w5 hO.out.vf (ltAll_trim (encShift_lt hO.out.vf HL.out)) (trimL_trimmed _) (by rw [trimL_length]; have := encShift_length par data; have := tl_le (encShift par data) (encShift par data).length; have := HN.out; have := HM.out; omega) (gen_lt' hO.out.vf first par) (.inr (by rw [gen_length, Nat.add_sub_cancel, gen_top]; omega)) (by rw [gen_length]; omega) (fun e => by have := gen_length (s := S) (p := P) first par; rw [e] at this; simp at this) HI5.out (HG4.out.below HB5.out)).mono ?_
      rintro e w6 ⟨x6, y6, rfl, hi6, hb6⟩
      have HI6 : Hid (Ints w6 y6 (zl (encRest S P par first data))) := hi6
      have HB6 : Hid (Abv wr w6) := bwStep HB5.out hb6
      clear hi6 hb6
      refine ⟨_, rfl, HB6.out, ?_⟩
      simp only [Act.put, List.setIfInBounds_toArray, List.set_cons_zero, List.set_cons_succ]
      repeat
        refine' wpHX_val rfl (fun W hW => ?_) ?_
        rotate_left
        · have hcf := HC.out W hW; go_simp; rfl
        simp only [Act.put, List.setIfInBounds_toArray, List.set_cons_zero, List.set_cons_succ]
      refine wpHX_nil ?_
      obtain ⟨A6, c6, rfl, -, -, hr6⟩ := Ints.nat HI6.out
      have HR6 := Lib.hid hr6
      have HRL : Hid ((encRest S P par first data).length ≤ N) := by show _ ≤ _; have := encRest_length hO.out.vf (par := par) (first := first) HL.out; have := HN.out; omega
      have HRT : Hid (LtAll S (encRest S P par first data)) := encRest_lt hO.out.vf HL.out
      have HEND : Hid (wrA S P N data (encRest S P par first data) (encRest S P par first data).length = encW S P par first data) := by
        have := wrA_end hO.out.vf (par := par) (first := first) HL.out
        rw [← HM.out, HN.out] at this
        exact this
      clear hr6
      obtain ⟨W7, hcp, hO7, hB7⟩ := copy_made w6 N i ca ad data HM.out hNm (by
          have h0 : ad.block < w.heap.size := HADW.out
          have h1 := HAW.out.size
          have h2 := HB6.out.size
          omega) (by
          obtain ⟨ad', e, -, hca⟩ := (HA.out.below (bwStep HAW.out HB6.out)) (by rw [zl_length, ← HM.out]; omega)
          cases e
          exact hca)
      rw [HM.out, wrA_zero S P N data (encRest S P par first data) (by have := HM.out; omega)] at hO7
      have HO7 : Hid (Below w6.heap.size w6 W7 ∧ RowAt W7 w6.heap.size (wrA S P N data (encRest S P par first data) 0)) := ⟨hB7, hO7⟩
      clear hO7 hB7
      generalize hrr : encRest S P par first data = rest at *
      obtain ⟨q, hq⟩ : ∃ q, q = rest.length := ⟨_, rfl⟩
      have HQ := Lib.hid hq
      rw [← hq] at HRL HEND
      have hqN : q ≤ N := HRL.out
      rw [← hq]
      clear hrr hq HI6
      go_wp2
      clear hcp hmk
      go_loopw [84] (fun iv wr => ∃ k : Nat, k ≤ q ∧ iv = .int .i64 k ∧ Hid (Below w6.heap.size w6 wr ∧ RowAt wr w6.heap.size (wrA S P N data rest k))) (fun iv _ => q - (intOf iv).toNat)
      case atStart => exact ⟨0, Nat.zero_le _, rfl, HO7⟩
      case round =>
        obtain ⟨k, hk, rfl, hO2⟩ := hrel
        by_cases hlt2 : k < q
        · obtain ⟨a6, rfl, hadw, hca⟩ := (HR6.out.below hO2.out.1) (by rw [zl_length, ← HQ.out]; omega)
          have hy := hca k (by rw [zl_length, ← HQ.out]; exact hlt2)
          rw [zl_getD] at hy
          have HST : Hid (_ = _) := wrA_step S P N data rest k (by omega)
          obtain ⟨r, hr⟩ : ∃ r, r = N - 1 - k := ⟨_, rfl⟩
          have hr2 : (N : Int) - 1 - (k : Int) = (r : Int) := by omega
          have hr3 : r < N := by omega
          rw [← hr] at HST
          have HX : Hid (rest.getD k 0 < S) := HRT.out k
          obtain ⟨g0, g1, g2⟩ := HC.out _ (bwStep HB6.out hO2.out.1)
          have HCELL : Hid (∀ W, Abv wr W → W.cell? ⟨w6.heap.size, r, none⟩ = some (.int .i64 (((wrA S P N data rest k).getD r 0 : Nat) : Int)) ∧ W.frozen? ⟨w6.heap.size, r, none⟩ = false) := by
            show ∀ W, _
            intro W hW
            exact (hO2.out.2.below hW).2 r (by rw [wrA_length]; exact hr3)
          generalize rest.getD k 0 = x at *
          generalize hue : (wrA S P N data rest k).getD r 0 = u at *
          clear hca hr hue hadw
          go_wp2_with (go_at_call 117; refine (gSub0_yes C S P x _ hO.out.vf HX.out).mono ?_; rintro e w8 ⟨rfl, hb8⟩; have HO8 : Hid (Below w6.heap.size w6 w8 ∧ RowAt w8 w6.heap.size (wrA S P N data rest k)) := ⟨bwStep hO2.out.1 hb8, hO2.out.2.below hb8⟩; obtain ⟨c1, c2⟩ := HCELL.out _ hb8; clear hb8)
          exact ⟨⟨k + 1, by omega, by go_num, by rw [← HST.out]; exact ⟨HO8.out.1.setCell (Nat.le_refl _) _, HO8.out.2.set _ _⟩⟩, by simp [intOf]; omega⟩
        · have hkq : k = q := by omega
          subst hkq
          go_wp2
          go_ret2
          refine RetL.mk rfl ?_ (bwStep (bwStep HAW.out HB6.out) hO2.out.1)
          rw [← HEND.out]
          exact hO2.out.2.ints (wrA_length _ _ _ _ _ _).symm (Nat.le_refl _) (by unfold maxLen; omega)
end Go.Proofs.YtmnlkganmgcpbaaGreatDoor
