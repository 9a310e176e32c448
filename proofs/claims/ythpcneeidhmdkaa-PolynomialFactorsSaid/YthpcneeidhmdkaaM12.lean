import Derived.Test.YthpcneeidhmdkaaM11
namespace Go.Proofs.Ythpcneeidhmdkaa
open Go.RowKit
set_option linter.unusedVariables false
/-! the reference: FromRoots -/
/-- the coefficient below -/
def prevN (l : List Nat) (c j : Nat) : Nat := if j = 0 then c else l.getD (j - 1) 0
theorem getD_set_eq {l : List Nat} {i v : Nat} (hi : i < l.length) : (l.set i v).getD i 0 = v := by simp [List.getD, hi]
theorem getD_set_ne' {l : List Nat} {i j v : Nat} (h : i ≠ j) : (l.set i v).getD j 0 = l.getD j 0 := by simp [List.getD, List.getElem?_set_ne h]
theorem eL_getD (s p : Nat) (l : List Nat) (r c k : Nat) (hk : k ≤ l.length) (j : Nat) :
    (eL s p l r c k).getD j 0 = if j < k then fsubN s p (prevN l c j) (fmulN s p (l.getD j 0) r) else if j = k then prevN l c j else 0 := by
  induction k generalizing j with
  | zero =>
    show ((List.replicate (l.length + 1) 0).set 0 c).getD j 0 = _
    rw [if_neg (by omega)]
    by_cases h : j = 0
    · subst h; rw [if_pos rfl, getD_set_eq (by simp)]; rfl
    · rw [if_neg h, getD_set_ne' (by omega)]
      by_cases h2 : j < l.length + 1
      · simp [List.getD, h2]
      · simp [List.getD, h2]
  | succ k ih =>
    have ih := ih (by omega)
    have hlen := eL_length s p l r c k
    show (((eL s p l r c k).set k (fsubN s p ((eL s p l r c k).getD k 0) (fmulN s p (l.getD k 0) r))).set (k + 1) (l.getD k 0)).getD j 0 = _
    by_cases h1 : j = k + 1
    · subst h1
      rw [getD_set_eq (by rw [List.length_set, hlen]; omega), if_neg (by omega), if_pos rfl]
      rfl
    · rw [getD_set_ne' (Ne.symm h1)]
      by_cases h2 : j = k
      · subst h2
        rw [getD_set_eq (by rw [hlen]; omega), if_pos (by omega), ih j, if_neg (by omega), if_pos rfl]
      · rw [getD_set_ne' (Ne.symm h2), ih j]
        by_cases h3 : j < k
        · rw [if_pos h3, if_pos (by omega)]
        · rw [if_neg h3, if_neg h2, if_neg (by omega), if_neg h1]
/-- the reference's step -/
def nxL (s p : Nat) (l : List Nat) (r : Nat) : Nat → List Nat
  | 0 => 0 :: l
  | k + 1 => (nxL s p l r k).set k (fsubN s p ((nxL s p l r k).getD k 0) (fmulN s p (l.getD k 0) r))
theorem nxL_length (s p : Nat) (l : List Nat) (r k : Nat) : (nxL s p l r k).length = l.length + 1 := by
  induction k with
  | zero => rfl
  | succ k ih => unfold nxL; rw [List.length_set, ih]
theorem nxL_getD (s p : Nat) (l : List Nat) (r k : Nat) (hk : k ≤ l.length) (j : Nat) :
    (nxL s p l r k).getD j 0 = if j < k then fsubN s p (prevN l 0 j) (fmulN s p (l.getD j 0) r) else prevN l 0 j := by
  induction k generalizing j with
  | zero =>
    rw [if_neg (by omega)]
    show (0 :: l).getD j 0 = _
    cases j with
    | zero => rfl
    | succ j => rfl
  | succ k ih =>
    have ih := ih (by omega)
    have hlen := nxL_length s p l r k
    show ((nxL s p l r k).set k (fsubN s p ((nxL s p l r k).getD k 0) (fmulN s p (l.getD k 0) r))).getD j 0 = _
    by_cases h2 : j = k
    · subst h2
      rw [getD_set_eq (by rw [hlen]; omega), if_pos (by omega), ih j, if_neg (by omega)]
    · rw [getD_set_ne' (Ne.symm h2), ih j]
      by_cases h3 : j < k
      · rw [if_pos h3, if_pos (by omega)]
      · rw [if_neg h3, if_neg (by omega)]
theorem list_ext_getD {a b : List Nat} (hl : a.length = b.length) (h : ∀ i, i < a.length → a.getD i 0 = b.getD i 0) : a = b := by
  apply List.ext_getElem hl
  intro i h1 h2
  have := h i h1
  simpa [List.getD, h1, h2] using this
theorem nxL_ext (s p : Nat) (l : List Nat) (r : Nat) : nxL s p l r l.length = extL s p l r 0 := by
  refine list_ext_getD (by rw [nxL_length]; unfold extL; rw [eL_length]) fun j hj => ?_
  rw [nxL_length] at hj
  unfold extL
  rw [nxL_getD _ _ _ _ _ (Nat.le_refl _), eL_getD _ _ _ _ _ _ (Nat.le_refl _)]
  by_cases h : j < l.length
  · rw [if_pos h, if_pos h]
  · rw [if_neg h, if_neg h, if_pos (by omega)]
theorem nxL_lt {c s p : Nat} (h : VF c s p) {l : List Nat} (hl : LtAll s l) {r : Nat} (k : Nat) : LtAll s (nxL s p l r k) := by
  induction k with
  | zero =>
    intro i
    cases i with
    | zero => have := h.two_le; show 0 < s; omega
    | succ i => exact hl i
  | succ k ih => exact ltAll_set ih _ _ (subN_lt h (ih _) (fmul_lt h _ _))
structure NX (w wr : World) (g : Nat) (A : Option Addr) (l nx : List Nat) : Prop where
  B : Abv w wr
  O : RowAt wr g nx
  D : RD wr A (zl l)
  hg : w.heap.size ≤ g
  ne : ∀ ad, A = some ad → ad.block ≠ g
theorem NX.below {w wr W : World} {g : Nat} {A : Option Addr} {l nx : List Nat} (h : NX w wr g A l nx) (hb : Below wr.heap.size wr W) : NX w W g A l nx := ⟨bwStep h.B hb, h.O.below hb, h.D.below hb, h.hg, h.ne⟩
theorem NX.set {w wr : World} {g : Nat} {A : Option Addr} {l nx : List Nat} (h : NX w wr g A l nx) (i v : Nat) : NX w (wr.setCell ⟨g, i, none⟩ (.int .i64 (v : Int))) g A l (nx.set i v) := by
  refine ⟨h.B.setCell h.hg _, h.O.set i v, fun hn => ?_, h.hg, h.ne⟩
  obtain ⟨ad, e, hl, hc⟩ := h.D hn
  refine ⟨ad, e, by simpa using hl, fun j hj => ?_⟩
  rw [World.cell?_setCell_other wr _ _ _ (fun e2 => h.ne ad e (by have := congrArg Addr.block e2; rw [block_of_add] at this; exact this.symm))]
  exact hc j hj
set_option maxHeartbeats 4000000 in
theorem rFromRoots_any (c s p : Int) (q : Sl) (w : World) (hs : s ≤ 9223372036854775807) (hp : p ≤ 9223372036854775807) (hq : q.R w) :
    Calls Try.prog 30 #[fldv c s p, q.v] w (RetL w (fromRes c s p q.xs)) := by
  obtain ⟨A, n, ca, xs⟩ := q
  obtain ⟨i0, hi, hz0, hz1, hz2⟩ := info_parts intInfo
  have hbx : Below w.heap.size w (w.alloc (fldB c s p)) := (Below.refl _ _).alloc (Nat.le_refl _) _
  have HQ := Lib.hid (hq.below hbx)
  have CB : Hid (CellsAt (w.alloc (fldB c s p)) w.heap.size (fldC c s p)) := CellsAt.new _ _ _ _ rfl
  have HC : Hid (∀ w1, Below (w.alloc (fldB c s p)).heap.size (w.alloc (fldB c s p)) w1 → w1.cell? ⟨w.heap.size, 0, none⟩ = some (.int .i64 c) ∧ w1.cell? ⟨w.heap.size, 1, none⟩ = some (.int .i64 s) ∧ w1.cell? ⟨w.heap.size, 2, none⟩ = some (.int .i64 p)) := fun w1 hb => fldC_cells (CB.out.below hb)
  have EQ : Hid (∀ w1, Abv (w.alloc (fldB c s p)) w1 → Calls Try.prog 60 #[fldv c s p, .slice A n ca] w1 fun e w' => e = .returned (.bool (inB s xs)) ∧ Below w1.heap.size w1 w') := fun w1 hb => relements_any c s p ⟨A, n, ca, xs⟩ w1 (HQ.out.below hb)
  show Calls Try.prog 30 #[fldv c s p, .slice A n ca] w (RetL w (fromRes c s p xs))
  cases hv : vldB c s p with
  | false =>
    have HV := Lib.hid hv
    have HF : Hid (fromRes c s p xs = ([], 1)) := by show _ = _; unfold fromRes; rw [hv]; rfl
    clear hv hq hbx
    go_enter Try.func30, Try.ntmps30
    go_wp2_with (go_at_call 59; refine (rvalid_any c s p _ hs hp).mono ?_; rintro e w1 ⟨rfl, hb1⟩; rw [HV.out]; have HB1 := Lib.hid hb1; clear hb1)
    go_ret2
    exact RetL.mk HF.out (Ints.nil_ _) (bw1 HB1.out)
  | true =>
    have HV := Lib.hid hv
    cases hx : inB s xs with
    | false =>
      have HX := Lib.hid hx
      have HF : Hid (fromRes c s p xs = ([], 1)) := by show _ = _; unfold fromRes; rw [hv, hx]; rfl
      clear hx hv hq hbx
      go_enter Try.func30, Try.ntmps30
      go_wp2_with (first
        | (go_at_call 59; refine (rvalid_any c s p _ hs hp).mono ?_; rintro e w1 ⟨rfl, hb1⟩; rw [HV.out]; have HB1 := Lib.hid hb1; clear hb1; obtain ⟨f0, f1, f2⟩ := HC.out _ HB1.out)
        | (go_at_call 60; refine (EQ.out _ HB1.out).mono ?_; rintro e w2 ⟨rfl, hb2⟩; rw [HX.out]; have HB2 := Lib.hid hb2; clear hb2))
      go_ret2
      exact RetL.mk HF.out (Ints.nil_ _) (bw1 (bwStep HB1.out HB2.out))
    | true =>
      have HX := Lib.hid hx
      have hnx : n = xs.length := hq.hn
      by_cases hbig : 4096 < n
      · have HF : Hid (fromRes c s p xs = ([], 4)) := by show _ = _; unfold fromRes; rw [hv, hx, ← hnx]; rw [if_pos hbig]; rfl
        have hn63 : n ≤ 9223372036854775807 := hq.hm
        clear hx hv hq hbx hnx
        go_enter Try.func30, Try.ntmps30
        go_wp2_with (first
          | (go_at_call 59; refine (rvalid_any c s p _ hs hp).mono ?_; rintro e w1 ⟨rfl, hb1⟩; rw [HV.out]; have HB1 := Lib.hid hb1; clear hb1; obtain ⟨f0, f1, f2⟩ := HC.out _ HB1.out)
          | (go_at_call 60; refine (EQ.out _ HB1.out).mono ?_; rintro e w2 ⟨rfl, hb2⟩; rw [HX.out]; have HB2 := Lib.hid hb2; clear hb2 f0 f1 f2))
        go_ret2
        exact RetL.mk HF.out (Ints.nil_ _) (bw1 (bwStep HB1.out HB2.out))
      · obtain ⟨C, S, P, rfl, rfl, rfl, hvf⟩ := vld_nat hv
        obtain ⟨a, rfl, hla⟩ := inB_nat (by have := hvf.two_le; omega) hx
        have hnn : n = a.length := hnx.trans (zl_length a)
        have HF : Hid (fromRes C S P (zl a) = (zl (fromL S P a n), 0)) := by show _ = _; unfold fromRes; rw [hv, hx, ← hnx]; rw [if_neg hbig, nl_zl]; rfl
        have hn7 : n ≤ 4096 := by omega
        have hd : decide ((4096 : Int) < (n : Int)) = false := by simp; omega
        have HVF := Lib.hid hvf
        have HLA := Lib.hid hla
        have HNN := Lib.hid hnn
        clear hx hv hq hbx hnx hvf hla hnn hbig
        go_enter Try.func30, Try.ntmps30
        go_wp2_with (first
          | (go_at_call 59; refine (rvalid_any C S P _ hs hp).mono ?_; rintro e w1 ⟨rfl, hb1⟩; rw [HV.out]; have HB1 := Lib.hid hb1; clear hb1; obtain ⟨f0, f1, f2⟩ := HC.out _ HB1.out)
          | (go_at_call 60; refine (EQ.out _ HB1.out).mono ?_; rintro e w2 ⟨rfl, hb2⟩; rw [HX.out]; have HB2 := Lib.hid (bwStep HB1.out hb2); clear hb2 f0 f1 f2))
        clear hd
        have HX0 : Hid (CellsAt (w2.alloc (.cells #[.int .i64 1] 3)) w.heap.size (fldC C S P)) := (CB.out.below HB2.out).alloc _
        have HQ0 : Hid (RD (w2.alloc (.cells #[.int .i64 1] 3)) A (zl a)) := (HQ.out.below HB2.out).rd.alloc _
        have HI0 : Hid (Ints (w2.alloc (.cells #[.int .i64 1] 3)) (.slice (some ⟨w2.heap.size, 0, none⟩) 1 1) (zl (fromL S P a 0))) := Ints.lit _ [1] 3 _ 1 rfl rfl (by omega)
        have HBF : Hid (Below w.heap.size w (w2.alloc (.cells #[.int .i64 1] 3))) := bwAlloc (bw1 HB2.out) _
        clear HB1 HB2 HQ CB HC EQ HV HX
        generalize w2.alloc (.cells #[.int .i64 1] 3) = W0 at *
        generalize w2.heap.size = rb at *
        go_loopw [6, 7] (fun pv iv wr => ∃ k : Nat, k ≤ n ∧ iv = .int .i64 k ∧ Hid (Abv W0 wr) ∧ Hid (Ints wr pv (zl (fromL S P a k)))) (fun _ iv _ => n - (intOf iv).toNat)
        case atStart => exact ⟨0, Nat.zero_le _, rfl, Below.refl _ _, HI0⟩
        case round =>
          obtain ⟨k, hk, rfl, hA, hP⟩ := hrel
          by_cases hlt : k < n
          · obtain ⟨A2, n2, c2, rfl, hn2, -, -, hrd2⟩ := hP.out.n
            have HST : Hid (fromL S P a (k + 1) = extL S P (fromL S P a k) (a.getD k 0) 0) := rfl
            have HX1 : Hid (a.getD k 0 < S) := HLA.out k
            have hn2k : n2 ≤ 4097 := by rw [hn2, fromL_length]; omega
            have HN0 : Hid (0 < n2) := by show _ < _; rw [hn2, fromL_length]; omega
            have HLT : Hid (LtAll S (fromL S P a k)) := fromL_lt HVF.out HLA.out k
            generalize fromL S P a k = l at *
            have HN2 := Lib.hid hn2
            have HZN : Hid (n2 = (zl l).length) := by show _ = _; rw [zl_length]; exact hn2
            have HRD2 := Lib.hid hrd2
            have HRDA : Hid (RD (wr.alloc (.cells #[.int .i64 0] 3)) A2 (zl l)) := hrd2.alloc _
            have HOW : Hid ((wr.alloc (.cells #[.int .i64 0] 3)).ownsRow wr.heap.size 3 1 (.slice (some ⟨wr.heap.size, 0, none⟩) 1 1) 1 (([0] : List Int).map (Value.int .i64))) :=
              World.ownsRow_lit wr #[.int .i64 0] 1 (Nat.le_refl _) (by simp [maxLen]) rfl
            obtain ⟨N5, hN5⟩ : ∃ N5, N5 = 1 + n2 := ⟨_, rfl⟩
            have hN51 : n2 < N5 := by omega
            have hN52 : N5 ≤ 4098 := by omega
            have HN5 := Lib.hid hN5
            clear hn2 hrd2 hN5
            go_wp2_with (at_builtin; refine wpList_append_read rfl _ _ _ rfl wr.heap.size 3 i0 _ Try.underlying24 hi hz0 hz1 hz2 rfl (.slice (some ⟨wr.heap.size, 0, none⟩) 1 1) 1 [0] rfl HOW.out A2 n2 _ (zl l) rfl HZN.out HRDA.out (by omega) (by simp) ?_; intro v5 w5 hown hg hat; have HB5 : Hid (Abv wr w5) := ((Below.refl _ _).alloc (Nat.le_refl _) _).grown hg (by simp) (fun j hj => by cases hj; exact Nat.le_refl _); obtain ⟨g, c5, rfl, hgw, hc51, hc52, hrow⟩ := own_row (n := N5) (l := 0 :: l) (by rw [HN5.out]; exact hown) (by omega); have HROW := Lib.hid hrow; clear hown hg hat hrow)
            have HNX : Hid (NX W0 w5 g A2 l (nxL S P l (a.getD k 0) 0)) := by
              refine ⟨bwStep hA.out HB5.out, HROW.out, HRD2.out.below HB5.out, Nat.le_trans hA.out.size hgw, fun ad e => ?_⟩
              obtain ⟨ad', e2, h1, _⟩ := HRD2.out (by rw [zl_length, ← HN2.out]; exact HN0.out)
              rw [e] at e2
              injection e2 with e2
              subst e2
              omega
            have HLN : Hid (∀ t, (nxL S P l (a.getD k 0) t).length = N5) := fun t => by rw [nxL_length, HN5.out, HN2.out]; omega
            have HLL : Hid (∀ t, LtAll S (nxL S P l (a.getD k 0) t)) := fun t => nxL_lt HVF.out HLT.out t
            have HLS : Hid (∀ t, nxL S P l (a.getD k 0) (t + 1) = (nxL S P l (a.getD k 0) t).set t (fsubN S P ((nxL S P l (a.getD k 0) t).getD t 0) (fmulN S P (l.getD t 0) (a.getD k 0)))) := fun t => rfl
            have HEX : Hid (nxL S P l (a.getD k 0) n2 = extL S P l (a.getD k 0) 0) := by show _ = _; rw [HN2.out]; exact nxL_ext _ _ _ _
            obtain ⟨rd, rfl, hrdw, hca⟩ := HQ0.out (by rw [zl_length, ← HNN.out]; omega)
            have HRC : Hid (∀ W, Abv W0 W → W.cell? (rd.add k) = some (.int .i64 ((a.getD k 0 : Nat) : Int))) := by
              show ∀ W, _
              intro W hW
              rw [hW.cell (by rw [block_of_add]; exact hrdw), hca k (by rw [zl_length, ← HNN.out]; exact hlt), zl_getD]
            clear hca
            generalize a.getD k 0 = x1 at *
            go_loopw [9] (fun tv wr => ∃ t : Nat, t ≤ n2 ∧ tv = .int .i64 t ∧ Hid (NX W0 wr g A2 l (nxL S P l x1 t))) (fun tv _ => n2 - (intOf tv).toNat)
            case atStart => exact ⟨0, Nat.zero_le _, rfl, HNX⟩
            case round =>
              obtain ⟨t, ht, rfl, hN⟩ := hrel
              by_cases hlt2 : t < n2
              · obtain ⟨ad, rfl, hadw, hcl⟩ := hN.out.D (by rw [zl_length, ← HN2.out]; omega)
                have hl1 := hcl t (by rw [zl_length, ← HN2.out]; exact hlt2)
                rw [zl_getD] at hl1
                have HY : Hid (l.getD t 0 < S) := HLT.out t
                have HU : Hid ((nxL S P l x1 t).getD t 0 < S) := HLL.out t t
                have HSTt := HLS.out t
                have hOc := hN.out.O.2 t (by rw [HLN.out]; omega)
                have CF : Hid (∀ W, Abv wr W → (W.cell? ⟨w.heap.size, 0, none⟩ = some (.int .i64 C) ∧ W.cell? ⟨w.heap.size, 1, none⟩ = some (.int .i64 S) ∧ W.cell? ⟨w.heap.size, 2, none⟩ = some (.int .i64 P)) ∧ W.cell? ⟨g, t, none⟩ = some (.int .i64 (((nxL S P l x1 t).getD t 0 : Nat) : Int)) ∧ W.cell? (ad.add t) = some (.int .i64 ((l.getD t 0 : Nat) : Int)) ∧ W.cell? (rd.add k) = some (.int .i64 (x1 : Int)) ∧ W.frozen? ⟨g, t, none⟩ = false) := by
                  show ∀ W, _
                  intro W hW
                  have hb0 := bwStep hN.out.B hW
                  exact ⟨fldC_cells (HX0.out.below hb0), (hW.cell hN.out.O.1).trans hOc.1, (hW.cell (by rw [block_of_add]; exact hadw)).trans hl1, HRC.out W hb0, (hW.frozen hN.out.O.1).trans hOc.2⟩
                have HSTX := Lib.hid HSTt
                clear HSTt hOc hl1 hcl
                generalize l.getD t 0 = y at *
                generalize (nxL S P l x1 t).getD t 0 = u at *
                have htT : t < N5 := by omega
                go_wp2
                refine wp_region_S (S := Abv wr) 19 (by kernel_rfl) (by kernel_rfl) (bwDrew (Below.refl _ _)) ?_
                simp only [List.take_succ_cons, List.take_zero, List.drop_succ_cons, List.drop_zero]
                repeat
                  refine' wpHS_val rfl (fun W hW => ?_) ?_
                  rotate_left
                  · have hcf := CF.out W hW; go_simp; rfl
                  simp only [Act.put, List.setIfInBounds_toArray, List.set_cons_zero, List.set_cons_succ]
                refine' wpHS_call rfl (fun W => ?_) (fun W hW => ?_) ?_
                rotate_left 3
                · go_simp; exact ⟨rfl, rfl⟩
                · exact (rftimes_any C S P y x1 W HVF.out HY.out HX1.out).mono (fun e W1 h => ⟨h.1, bwStep hW h.2⟩)
                simp only [Act.put, List.setIfInBounds_toArray, List.set_cons_zero, List.set_cons_succ]
                repeat
                  refine' wpHS_val rfl (fun W hW => ?_) ?_
                  rotate_left
                  · have hcf := CF.out W hW; go_simp; rfl
                  simp only [Act.put, List.setIfInBounds_toArray, List.set_cons_zero, List.set_cons_succ]
                refine' wpHS_call rfl (fun W => ?_) (fun W hW => ?_) ?_
                rotate_left 3
                · go_simp; exact ⟨rfl, rfl⟩
                · exact (rfless_any C S P u (fmulN S P y x1) W HVF.out HU.out (fmul_lt HVF.out _ _)).mono (fun e W1 h => ⟨h.1, bwStep hW h.2⟩)
                simp only [Act.put, List.setIfInBounds_toArray, List.set_cons_zero, List.set_cons_succ]
                repeat
                  refine' wpHS_val rfl (fun W hW => ?_) ?_
                  rotate_left
                  · have hcf := CF.out W hW; go_simp; rfl
                  simp only [Act.put, List.setIfInBounds_toArray, List.set_cons_zero, List.set_cons_succ]
                refine wpHS_nil ?_
                intro w6 hb1
                have HB6 := Lib.hid hb1
                clear hb1
                obtain ⟨-, st1, -, -, st2⟩ := CF.out w6 HB6.out
                go_wp2
                exact ⟨⟨t + 1, by omega, by go_num, by rw [HSTX.out]; exact (hN.out.below HB6.out).set _ _⟩, by simp [intOf]; omega⟩
              · obtain rfl : t = n2 := by omega
                have HIN : Hid (Ints wr (.slice (some ⟨g, 0, none⟩) N5 c5) (zl (fromL S P a (k + 1)))) := by
                  rw [HST.out, ← HEX.out]; exact hN.out.O.ints (HLN.out _).symm hc51 hc52
                go_wp2
                exact ⟨⟨k + 1, by omega, by go_num, hN.out.B, HIN⟩, by simp [intOf]; omega⟩
          · obtain rfl : k = n := by omega
            go_wp2
            go_ret2
            exact RetL.mk HF.out hP.out (bwStep HBF.out hA.out)
end Go.Proofs.Ythpcneeidhmdkaa
namespace Go.Proofs.Ythpcneeidhmdkaa
open Go.RowKit
set_option linter.unusedVariables false
/-! the reference: twice, and what Interpolate computes -/
set_option maxHeartbeats 1000000 in
theorem twice_any (l : List Nat) (n : Nat) (hn : n = l.length) (A : Option Addr) (ca : Nat) (w : World) (hn7 : n ≤ 4097) (ha : RD w A (zl l)) :
    Calls Try.prog 61 #[.slice A n ca] w fun e w' => e = .returned (.bool (!decide l.Nodup)) ∧ Below w.heap.size w w' := by
  have HA := Lib.hid ha
  have HN := Lib.hid hn
  clear ha hn
  go_enter Try.func61, Try.ntmps61
  go_wp2
  go_loopw [3] (fun iv wr => ∃ i : Nat, i ≤ n ∧ iv = .int .i64 i ∧ Hid ((l.take i).Nodup) ∧ Hid (Abv w wr)) (fun iv _ => n - (intOf iv).toNat)
  case atStart => exact ⟨0, Nat.zero_le _, rfl, (show (l.take 0).Nodup from by simp), Below.refl _ _⟩
  case round =>
    obtain ⟨i, hi, rfl, hND, hA⟩ := hrel
    by_cases hlt : i < n
    · have HNT := Lib.hid (nodup_take_succ l i (by rw [← HN.out]; exact hlt))
      obtain ⟨ad, rfl, hadw, hca⟩ := HA.out (by rw [zl_length, ← HN.out]; omega)
      have HAC : Hid (∀ W, Abv w W → ∀ q, q < n → W.cell? (ad.add q) = some (.int .i64 ((l.getD q 0 : Nat) : Int))) := by
        show ∀ W, _
        intro W hW q hq
        rw [hW.cell (by rw [block_of_add]; exact hadw), hca q (by rw [zl_length, ← HN.out]; exact hq), zl_getD]
      clear hca
      go_wp2
      go_loopw [4] (fun kv wr => ∃ k : Nat, k ≤ i ∧ kv = .int .i64 k ∧ Hid (∀ j, j < k → l.getD i 0 ≠ l.getD j 0) ∧ Hid (Abv w wr)) (fun kv _ => i - (intOf kv).toNat)
      case atStart => exact ⟨0, Nat.zero_le _, rfl, fun j hj => by omega, hA⟩
      case round =>
        obtain ⟨k, hk, rfl, hne, hB⟩ := hrel
        by_cases hlt2 : k < i
        · have hkn : k < n := by omega
          have CF : Hid (∀ W, Abv wr W → W.cell? (ad.add i) = some (.int .i64 ((l.getD i 0 : Nat) : Int)) ∧ W.cell? (ad.add k) = some (.int .i64 ((l.getD k 0 : Nat) : Int))) := fun W hW => ⟨HAC.out W (bwStep hB.out hW) i hlt, HAC.out W (bwStep hB.out hW) k hkn⟩
          by_cases hxy : l.getD i 0 = l.getD k 0
          · have HF : Hid ((!decide l.Nodup) = true) := by
              show _ = _
              have : ¬ l.Nodup := fun hd => nodup_getD hd (by rw [← HN.out]; exact hlt) (by rw [← HN.out]; exact hkn) (by omega) hxy
              simp [this]
            have z1 : (((l.getD i 0 : Nat) : Int) == ((l.getD k 0 : Nat) : Int)) = true := by rw [hxy]; simp
            clear hxy
            generalize l.getD i 0 = x at *
            generalize l.getD k 0 = y at *
            go_wp2
            refine wp_region_S (S := Abv wr) 8 (by kernel_rfl) (by kernel_rfl) (bwDrew (Below.refl _ _)) ?_
            simp only [List.take_succ_cons, List.take_zero, List.drop_succ_cons, List.drop_zero]
            repeat
              refine' wpHS_val rfl (fun W hW => ?_) ?_
              rotate_left
              · have hcf := CF.out W hW; go_simp; rfl
              simp only [Act.put, List.setIfInBounds_toArray, List.set_cons_zero, List.set_cons_succ]
            refine wpHS_nil ?_
            intro w2 hb1
            have HB2 := Lib.hid hb1
            clear hb1
            go_wp2
            go_ret
            exact ⟨ret_bool HF.out.symm, bwStep hB.out HB2.out⟩
          · have HNX : Hid (∀ j, j < k + 1 → l.getD i 0 ≠ l.getD j 0) := fun j hj => by
              by_cases e : j = k
              · subst e; exact hxy
              · exact hne.out j (by omega)
            have z1 : (((l.getD i 0 : Nat) : Int) == ((l.getD k 0 : Nat) : Int)) = false := by rw [beq_eq_false_iff_ne]; omega
            clear hxy
            generalize hxe : l.getD i 0 = x at *
            have HXE := Lib.hid hxe
            clear hxe
            generalize l.getD k 0 = y at *
            go_wp2
            refine wp_region_S (S := Abv wr) 8 (by kernel_rfl) (by kernel_rfl) (bwDrew (Below.refl _ _)) ?_
            simp only [List.take_succ_cons, List.take_zero, List.drop_succ_cons, List.drop_zero]
            repeat
              refine' wpHS_val rfl (fun W hW => ?_) ?_
              rotate_left
              · have hcf := CF.out W hW; go_simp; rfl
              simp only [Act.put, List.setIfInBounds_toArray, List.set_cons_zero, List.set_cons_succ]
            refine wpHS_nil ?_
            intro w2 hb1
            have HB2 := Lib.hid hb1
            clear hb1
            go_wp2
            exact ⟨⟨k + 1, by omega, by go_num, by have := HNX.out; exact this, bwStep hB.out HB2.out⟩, by simp [intOf]; omega⟩
        · obtain rfl : k = i := by omega
          have HND2 : Hid ((l.take (k + 1)).Nodup) := by
            refine HNT.out.2 ⟨hND.out, fun hm => ?_⟩
            obtain ⟨j, hj, e⟩ := List.getElem_of_mem hm
            have hj1 : j < k := by rw [List.length_take] at hj; omega
            have hjl : j < l.length := by have := HN.out; omega
            refine hne.out j hj1 ?_
            rw [← e, List.getElem_take]
            simp [List.getD, hjl]
          go_wp2
          exact ⟨⟨k + 1, by omega, by go_num, HND2, hB.out⟩, by simp [intOf]; omega⟩
    · obtain rfl : i = n := by omega
      have HF : Hid ((!decide l.Nodup) = false) := by
        show _ = _
        have : l.Nodup := by have := hND.out; rw [HN.out, List.take_length] at this; exact this
        simp [this]
      go_wp2
      go_ret
      exact ⟨ret_bool HF.out.symm, hA.out⟩
def othL (xs : List Nat) (i : Nat) : Nat → List Nat
  | 0 => []
  | k + 1 => if k = i then othL xs i k else othL xs i k ++ [xs.getD k 0]
def sclF (s p : Nat) (xs : List Nat) (i y : Nat) : Nat → Nat
  | 0 => y
  | k + 1 => if k = i then sclF s p xs i y k else fmulN s p (sclF s p xs i y k) (finvN s p (fsubN s p (xs.getD i 0) (xs.getD k 0)))
def lagT (s p : Nat) (xs ys : List Nat) (i : Nat) : List Nat := scaleL s p (fromL s p (othL xs i xs.length) (othL xs i xs.length).length) (sclF s p xs i (ys.getD i 0) xs.length)
def lagL (s p : Nat) (xs ys : List Nat) : Nat → List Nat
  | 0 => []
  | i + 1 => addL s p (lagL s p xs ys i) (lagT s p xs ys i)
theorem othL_length (xs : List Nat) (i k : Nat) : (othL xs i k).length ≤ k := by
  induction k with
  | zero => exact Nat.le_refl _
  | succ k ih =>
    unfold othL
    split
    · omega
    · simp only [List.length_append, List.length_cons, List.length_nil]; omega
theorem ltAll_append {s : Nat} {l : List Nat} (hl : LtAll s l) {x : Nat} (hx : x < s) : LtAll s (l ++ [x]) := by
  intro i
  rcases Nat.lt_trichotomy i l.length with h | h | h
  · have := hl i
    rw [List.getD_eq_getElem?_getD] at this ⊢
    rw [List.getElem?_append_left h]; exact this
  · subst h; simp [List.getD, hx]
  · rw [getD_ge (by simp; omega)]; omega
section
variable {c s p : Nat} (h : VF c s p)
include h
theorem othL_lt {xs : List Nat} (hx : LtAll s xs) (i k : Nat) : LtAll s (othL xs i k) := by
  induction k with
  | zero => intro j; have := h.two_le; simp [othL, List.getD]; omega
  | succ k ih =>
    unfold othL
    split
    · exact ih
    · exact ltAll_append ih (hx k)
theorem sclF_lt {xs : List Nat} {y : Nat} (hy : y < s) (i k : Nat) : sclF s p xs i y k < s := by
  induction k with
  | zero => exact hy
  | succ k ih =>
    unfold sclF
    split
    · exact ih
    · exact fmul_lt h _ _
omit h in
theorem fromL_last (roots : List Nat) (k : Nat) : (fromL s p roots k).getD k 0 = 1 := by
  induction k with
  | zero => rfl
  | succ k ih =>
    show (extL s p (fromL s p roots k) (roots.getD k 0) 0).getD (k + 1) 0 = 1
    unfold extL
    rw [eL_getD _ _ _ _ _ _ (Nat.le_refl _), fromL_length, if_neg (by omega), if_pos rfl]
    exact ih
omit h in
theorem fromL_trimmed (roots : List Nat) (k : Nat) : Trimmed (fromL s p roots k) := by
  right
  rw [fromL_length, Nat.add_sub_cancel, fromL_last]
  omega
theorem scaleL_lt {a : List Nat} (b : Nat) : LtAll s (scaleL s p a b) := ltAll_trim (ltAll_map h fun i _ => fmul_lt h _ _)
omit h in
theorem scaleL_trimmed (a : List Nat) (b : Nat) : Trimmed (scaleL s p a b) := trimL_trimmed _
omit h in
theorem scaleL_length (a : List Nat) (b : Nat) : (scaleL s p a b).length ≤ a.length := by
  unfold scaleL
  rw [trimL_length]
  exact Nat.le_trans (tl_le _ _) (by rw [rgL_length]; exact Nat.le_refl _)
omit h in
theorem addL_length (a b : List Nat) : (addL s p a b).length ≤ max a.length b.length := by
  unfold addL
  rw [trimL_length]
  exact Nat.le_trans (tl_le _ _) (by simp)
theorem lagT_lt (xs ys : List Nat) (i : Nat) : LtAll s (lagT s p xs ys i) := scaleL_lt h _
omit h in
theorem lagT_length (xs ys : List Nat) (i : Nat) : (lagT s p xs ys i).length ≤ xs.length + 1 := by
  refine Nat.le_trans (scaleL_length _ _) ?_
  rw [fromL_length]
  have := othL_length xs i xs.length
  omega
theorem lagL_lt (xs ys : List Nat) (i : Nat) : LtAll s (lagL s p xs ys i) := by
  induction i with
  | zero => intro j; have := h.two_le; simp [lagL, List.getD]; omega
  | succ i ih => exact addL_lt h ih (lagT_lt h xs ys i)
omit h in
theorem lagL_trimmed (xs ys : List Nat) (i : Nat) : Trimmed (lagL s p xs ys i) := by
  cases i with
  | zero => exact .inl rfl
  | succ i => exact trimL_trimmed _
omit h in
theorem lagL_length (xs ys : List Nat) (i : Nat) : (lagL s p xs ys i).length ≤ xs.length + 1 := by
  induction i with
  | zero => exact Nat.zero_le _
  | succ i ih =>
    refine Nat.le_trans (addL_length _ _) ?_
    have := lagT_length (s := s) (p := p) xs ys i
    omega
end
theorem nodup_le {s : Nat} {l : List Nat} (hl : LtAll s l) (h : l.Nodup) : l.length ≤ s := by
  have := length_le_of_subset (m := List.range s) h (fun a ha => List.mem_range.2 (ltAll_mem hl a ha))
  simpa using this
end Go.Proofs.Ythpcneeidhmdkaa
namespace Go.Proofs.Ythpcneeidhmdkaa
open Go.RowKit
set_option linter.unusedVariables false
/-! the reference: Interpolate -/
theorem rdiv_n (C S P x y : Nat) (w : World) (hv : VF C S P) (hx : x < S) (hy : y < S) (hy0 : y ≠ 0) (hs : (S : Int) ≤ 9223372036854775807) (hp : (P : Int) ≤ 9223372036854775807) :
    Calls Try.prog 62 #[fldv C S P, .int .i64 x, .int .i64 y] w fun e w' => e = .returned (.tuple #[.int .i64 ((fmulN S P x (finvN S P y) : Nat) : Int), .int .i64 0]) ∧ Below w.heap.size w w' := by
  refine (rDiv_any C S P x y w hs hp).mono fun e w' ⟨he, hb⟩ => ⟨?_, hb⟩
  rw [he]
  unfold divR
  rw [ok2_of hv hx hy, if_pos rfl, if_neg (by omega)]
  rfl
theorem scaleRes_ok {C S P : Nat} (hv : VF C S P) {a : List Nat} (ha : LtAll S a) (ta : Trimmed a) (na : a.length ≤ 4097) {x : Nat} (hx : x < S) : scaleRes C S P (zl a) x = (zl (scaleL S P a x), 0) := by
  unfold scaleRes
  rw [show pvB C S P (zl a) = true from by unfold pvB; rw [vld_of hv, polB_zl ha na ta]; rfl, isB_of hx, nl_zl]; rfl
theorem addRes_ok {C S P : Nat} (hv : VF C S P) {a b : List Nat} (ha : LtAll S a) (ta : Trimmed a) (na : a.length ≤ 4097) (hb : LtAll S b) (tb : Trimmed b) (nb : b.length ≤ 4097) : addRes C S P (zl a) (zl b) = (zl (addL S P a b), 0) := by
  unfold addRes
  rw [show pvB C S P (zl a) = true from by unfold pvB; rw [vld_of hv, polB_zl ha na ta]; rfl, show pvB C S P (zl b) = true from by unfold pvB; rw [vld_of hv, polB_zl hb nb tb]; rfl, nl_zl, nl_zl]; rfl
theorem fromRes_ok {C S P : Nat} (hv : VF C S P) {a : List Nat} (ha : LtAll S a) (na : a.length ≤ 4096) : fromRes C S P (zl a) = (zl (fromL S P a a.length), 0) := by
  unfold fromRes
  rw [vld_of hv, inB_zl ha, zl_length, nl_zl, if_pos (show (true && true) = true from rfl), if_neg (by omega)]; rfl
theorem Ints.parts {w : World} {v : Value} {xs : List Int} (h : Ints w v xs) : ∃ A n c, v = .slice A n c ∧ (⟨A, n, c, xs⟩ : Sl).R w := by
  obtain ⟨A, c, rfl, h1, h2, h3⟩ := h
  exact ⟨A, xs.length, c, rfl, ⟨rfl, by unfold maxLen at h2; simp only; omega, h3, h1, h2⟩⟩
theorem rFromRoots_n (c s p : Int) (A : Option Addr) (n ca : Nat) (xs : List Int) (w : World) (hs : s ≤ 9223372036854775807) (hp : p ≤ 9223372036854775807) (hq : (⟨A, n, ca, xs⟩ : Sl).R w) :
    Calls Try.prog 30 #[fldv c s p, .slice A n ca] w (RetL w (fromRes c s p xs)) := rFromRoots_any c s p ⟨A, n, ca, xs⟩ w hs hp hq
theorem rScale_n (c s p x : Int) (A : Option Addr) (n ca : Nat) (xs : List Int) (w : World) (hs : s ≤ 9223372036854775807) (hp : p ≤ 9223372036854775807) (hq : (⟨A, n, ca, xs⟩ : Sl).R w) :
    Calls Try.prog 42 #[fldv c s p, .slice A n ca, .int .i64 x] w (RetL w (scaleRes c s p xs x)) := rScale_any c s p x ⟨A, n, ca, xs⟩ w hs hp hq
theorem rAdd_n (c s p : Int) (A : Option Addr) (n ca : Nat) (xs : List Int) (B : Option Addr) (m cb : Nat) (ys : List Int) (w : World) (hs : s ≤ 9223372036854775807) (hp : p ≤ 9223372036854775807) (hq : (⟨A, n, ca, xs⟩ : Sl).R w) (hr : (⟨B, m, cb, ys⟩ : Sl).R w) :
    Calls Try.prog 40 #[fldv c s p, .slice A n ca, .slice B m cb] w (RetL w (addRes c s p xs ys)) := rAdd_any c s p ⟨A, n, ca, xs⟩ ⟨B, m, cb, ys⟩ w hs hp hq hr
set_option maxRecDepth 100000 in
set_option maxHeartbeats 4000000 in
theorem rInterp_yes (C S P : Nat) (a b : List Nat) (A : Option Addr) (n ca : Nat) (B : Option Addr) (m cb : Nat) (w : World) (hv : VF C S P) (hla : LtAll S a) (hlb : LtAll S b) (hn7 : n ≤ 4000) (hm7 : m ≤ 4000) (hs : (S : Int) ≤ 9223372036854775807) (hp : (P : Int) ≤ 9223372036854775807)
    (hq : (⟨A, n, ca, zl a⟩ : Sl).R w) (hr : (⟨B, m, cb, zl b⟩ : Sl).R w) :
    Calls Try.prog 19 #[fldv C S P, .slice A n ca, .slice B m cb] w (RetL w (if a.length = b.length then (if a.Nodup then (zl (lagL S P a b a.length), 0) else ([], 30)) else ([], 7))) := by
  obtain ⟨i0, hi, hz0, hz1, hz2⟩ := info_parts intInfo
  have hbx : Below w.heap.size w (w.alloc (fldB C S P)) := (Below.refl _ _).alloc (Nat.le_refl _) _
  have HQ := Lib.hid (hq.below hbx)
  have HR := Lib.hid (hr.below hbx)
  have CB : Hid (CellsAt (w.alloc (fldB C S P)) w.heap.size (fldC C S P)) := CellsAt.new _ _ _ _ rfl
  have HC : Hid (∀ w1, Below (w.alloc (fldB C S P)).heap.size (w.alloc (fldB C S P)) w1 → w1.cell? ⟨w.heap.size, 0, none⟩ = some (.int .i64 C) ∧ w1.cell? ⟨w.heap.size, 1, none⟩ = some (.int .i64 S) ∧ w1.cell? ⟨w.heap.size, 2, none⟩ = some (.int .i64 P)) := fun w1 hb => fldC_cells (CB.out.below hb)
  have EQ : Hid (∀ w1, Abv (w.alloc (fldB C S P)) w1 → Calls Try.prog 60 #[fldv C S P, .slice A n ca] w1 fun e w' => e = .returned (.bool true) ∧ Below w1.heap.size w1 w') := fun w1 hb => by
    have := relements_any C S P ⟨A, n, ca, zl a⟩ w1 (HQ.out.below hb)
    rw [inB_zl hla] at this; exact this
  have ER : Hid (∀ w1, Abv (w.alloc (fldB C S P)) w1 → Calls Try.prog 60 #[fldv C S P, .slice B m cb] w1 fun e w' => e = .returned (.bool true) ∧ Below w1.heap.size w1 w') := fun w1 hb => by
    have := relements_any C S P ⟨B, m, cb, zl b⟩ w1 (HR.out.below hb)
    rw [inB_zl hlb] at this; exact this
  have HV : Hid (vldB C S P = true) := vld_of hv
  have hS := hv.le
  have hS2 := hv.two_le
  have HVF := Lib.hid hv
  have HLA := Lib.hid hla
  have HLB := Lib.hid hlb
  have HNN : Hid (n = a.length) := hq.hn.trans (zl_length a)
  have HMM : Hid (m = b.length) := hr.hn.trans (zl_length b)
  generalize hRES : (if a.length = b.length then (if a.Nodup then (zl (lagL S P a b a.length), (0 : Int)) else ([], 30)) else ([], 7)) = RES
  have HRES := Lib.hid hRES
  clear hv hla hlb hq hr hbx hRES
  by_cases hne : n = m
  · subst hne
    by_cases hbig : S < n
    · have HF : Hid (RES = ([], 30)) := by
        show _ = _
        have : ¬ a.Nodup := fun hd => by have := nodup_le HLA.out hd; have h5 := HNN.out; omega
        rw [← HRES.out, if_pos (by have h5 := HNN.out; have h6 := HMM.out; omega), if_neg this]
      go_enter Try.func19, Try.ntmps19
      go_wp2_with (first
        | (go_at_call 59; refine (rvalid_any C S P _ hs hp).mono ?_; rintro e w1 ⟨rfl, hb1⟩; rw [HV.out]; have HB1 := Lib.hid hb1; clear hb1; obtain ⟨f0, f1, f2⟩ := HC.out _ HB1.out)
        | (go_at_call 60; ((with_reducible refine (EQ.out _ HB1.out).mono ?_); rintro e w2 ⟨rfl, hb2⟩; have HB2 := Lib.hid (bwStep HB1.out hb2); clear hb2 f0 f1 f2; obtain ⟨g0, g1, g2⟩ := HC.out _ HB2.out))
        | (go_at_call 60; refine (ER.out _ HB2.out).mono ?_; rintro e w3 ⟨rfl, hb3⟩; have HB3 := Lib.hid (bwStep HB2.out hb3); clear hb3 g0 g1 g2; obtain ⟨k0, k1, k2⟩ := HC.out _ HB3.out))
      go_ret2
      exact RetL.mk HF.out (Ints.nil_ _) (bw1 HB3.out)
    · by_cases hnd : a.Nodup
      · have HF : Hid (RES = (zl (lagL S P a b n), 0)) := by
          show _ = _
          rw [← HRES.out, if_pos (by have h5 := HNN.out; have h6 := HMM.out; omega), if_pos hnd, HNN.out]
        have HND : Hid ((!decide a.Nodup) = false) := by show _ = _; simp [hnd]
        have HNDA := Lib.hid hnd
        clear hnd
        go_enter Try.func19, Try.ntmps19
        go_wp2_with (first
          | (go_at_call 59; refine (rvalid_any C S P _ hs hp).mono ?_; rintro e w1 ⟨rfl, hb1⟩; rw [HV.out]; have HB1 := Lib.hid hb1; clear hb1; obtain ⟨f0, f1, f2⟩ := HC.out _ HB1.out)
          | (go_at_call 60; ((with_reducible refine (EQ.out _ HB1.out).mono ?_); rintro e w2 ⟨rfl, hb2⟩; have HB2 := Lib.hid (bwStep HB1.out hb2); clear hb2 f0 f1 f2; obtain ⟨g0, g1, g2⟩ := HC.out _ HB2.out))
          | (go_at_call 60; refine (ER.out _ HB2.out).mono ?_; rintro e w3 ⟨rfl, hb3⟩; have HB3 := Lib.hid (bwStep HB2.out hb3); clear hb3 g0 g1 g2; obtain ⟨k0, k1, k2⟩ := HC.out _ HB3.out)
          | (go_at_call 61; refine (twice_any a n HNN.out A ca _ (by omega) (HQ.out.below HB3.out).rd).mono ?_; rintro e w4 ⟨rfl, hb4⟩; rw [HND.out]; have HB4 := Lib.hid (bwStep HB3.out hb4); clear hb4 k0 k1 k2))
        have HX0 : Hid (CellsAt w4 w.heap.size (fldC C S P)) := CB.out.below HB4.out
        have HQ0 : Hid (RD w4 A (zl a)) := (HQ.out.below HB4.out).rd
        have HR0 : Hid (RD w4 B (zl b)) := (HR.out.below HB4.out).rd
        have HBF : Hid (Below w.heap.size w w4) := bw1 HB4.out
        clear HB1 HB2 HB3 HB4 HQ HR CB HC EQ ER HV HND
        go_loopw [8, 9] (fun sv iv wr => ∃ i : Nat, i ≤ n ∧ iv = .int .i64 i ∧ Hid (Abv w4 wr) ∧ Hid (Ints wr sv (zl (lagL S P a b i)))) (fun _ iv _ => n - (intOf iv).toNat)
        case atStart => exact ⟨0, Nat.zero_le _, rfl, Below.refl _ _, Ints.nil_ _⟩
        case round =>
          obtain ⟨i, hin, rfl, hA, hP⟩ := hrel
          by_cases hlt : i < n
          · obtain ⟨ad, rfl, hadw, hca⟩ := HQ0.out (by rw [zl_length, ← HNN.out]; omega)
            obtain ⟨bd, rfl, hbdw, hcb⟩ := HR0.out (by rw [zl_length, ← HMM.out]; omega)
            have HAC : Hid (∀ W, Abv w4 W → ∀ q, q < n → W.cell? (ad.add q) = some (.int .i64 ((a.getD q 0 : Nat) : Int))) := by
              show ∀ W, _
              intro W hW q hq
              rw [hW.cell (by rw [block_of_add]; exact hadw), hca q (by rw [zl_length, ← HNN.out]; exact hq), zl_getD]
            have hb1 : wr.cell? (bd.add i) = some (.int .i64 ((b.getD i 0 : Nat) : Int)) := by
              rw [hA.out.cell (by rw [block_of_add]; exact hbdw), hcb i (by rw [zl_length, ← HMM.out]; exact hlt), zl_getD]
            have HYI : Hid (b.getD i 0 < S) := HLB.out i
            clear hca hcb
            generalize hye : b.getD i 0 = y at *
            have HYE := Lib.hid hye
            clear hye
            go_wp2
            obtain ⟨wo, rfl⟩ : ∃ wo : World, wo = wr := ⟨_, rfl⟩
            go_loopw [10, 11, 12] (fun rv cv kv wr => ∃ k : Nat, k ≤ n ∧ kv = .int .i64 k ∧ cv = .int .i64 ((sclF S P a i y k : Nat) : Int) ∧ Hid (OwnL wo wr rv (othL a i k))) (fun _ _ kv _ => n - (intOf kv).toNat)
            case atStart => exact ⟨0, Nat.zero_le _, rfl, rfl, OwnL.start _⟩
            case round =>
              obtain ⟨k, hk, rfl, rfl, hO⟩ := hrel
              by_cases hlt2 : k < n
              · by_cases hki : k = i
                · subst hki
                  have HS1 : Hid (sclF S P a k y (k + 1) = sclF S P a k y k) := by show (if k = k then _ else _) = _; rw [if_pos rfl]
                  have HS2 : Hid (othL a k (k + 1) = othL a k k) := by show (if k = k then _ else _) = _; rw [if_pos rfl]
                  generalize sclF S P a k y k = sc at *
                  go_wp2
                  exact ⟨⟨k + 1, by omega, by go_num, by rw [HS1.out], by rw [HS2.out]; exact hO⟩, by simp [intOf]; omega⟩
                · have HS1 : Hid (sclF S P a i y (k + 1) = fmulN S P (sclF S P a i y k) (finvN S P (fsubN S P (a.getD i 0) (a.getD k 0)))) := by show (if k = i then _ else _) = _; rw [if_neg hki]
                  have HS2 : Hid (othL a i (k + 1) = othL a i k ++ [a.getD k 0]) := by show (if k = i then _ else _) = _; rw [if_neg hki]
                  have HSL : Hid (sclF S P a i y k < S) := sclF_lt HVF.out HYI.out i k
                  have HLE := Lib.hid (othL_length a i k)
                  have HX1 : Hid (a.getD i 0 < S) := HLA.out i
                  have HX2 : Hid (a.getD k 0 < S) := HLA.out k
                  have HNE : Hid (fsubN S P (a.getD i 0) (a.getD k 0) ≠ 0) := subN_ne HVF.out HX1.out HX2.out (nodup_getD HNDA.out (by rw [← HNN.out]; exact hlt) (by rw [← HNN.out]; exact hlt2) (by omega))
                  have hxk := HAC.out wr (bwStep hA.out hO.out.B) k hlt2
                  have HAI : Hid (∀ W, Abv w4 W → W.cell? (ad.add i) = some (.int .i64 ((a.getD i 0 : Nat) : Int)) ∧ W.cell? (ad.add k) = some (.int .i64 ((a.getD k 0 : Nat) : Int))) := fun W hW => ⟨HAC.out W hW i hlt, HAC.out W hW k hlt2⟩
                  have z1 : ((k : Int) != (i : Int)) = true := by rw [bne_iff_ne]; omega
                  generalize hsc : sclF S P a i y k = sc at *
                  generalize a.getD i 0 = x1 at *
                  generalize a.getD k 0 = x2 at *
                  clear hki hsc
                  go_wp2_with (at_builtin; refine wpList_append_read rfl _ _ _ rfl wo.heap.size 3 i0 _ Try.underlying24 hi hz0 hz1 hz2 rfl _ (othL a i k).length (zl (othL a i k)) rfl (hO.out.O.alloc _) (some ⟨wr.heap.size, 0, none⟩) 1 1 [((x2 : Nat) : Int)] rfl rfl (RD.one _ _ _ _ rfl) (by have := HLE.out; omega) (by have := hO.out.B.size; simp; omega) ?_; intro v5 w5 hown hg hat; have HB5 : Hid (OwnL wo w5 v5 (othL a i k ++ [x2])) := hO.out.push (Below.refl _ _) hown hg; have HW5 : Hid (Abv wo w5) := HB5.out.B; clear hown hg hat)
                  have CF : Hid (∀ W, Abv w5 W → (W.cell? ⟨w.heap.size, 0, none⟩ = some (.int .i64 C) ∧ W.cell? ⟨w.heap.size, 1, none⟩ = some (.int .i64 S) ∧ W.cell? ⟨w.heap.size, 2, none⟩ = some (.int .i64 P)) ∧ W.cell? (ad.add i) = some (.int .i64 (x1 : Int)) ∧ W.cell? (ad.add k) = some (.int .i64 (x2 : Int))) := by
                    show ∀ W, _
                    intro W hW
                    have hb0 : Abv w4 W := bwStep (bwStep hA.out HW5.out) hW
                    exact ⟨fldC_cells (HX0.out.below hb0), HAI.out W hb0⟩
                  refine wp_region_S (S := Abv w5) 17 (by kernel_rfl) (by kernel_rfl) (bwDrew (Below.refl _ _)) ?_
                  simp only [List.take_succ_cons, List.take_zero, List.drop_succ_cons, List.drop_zero]
                  repeat
                    refine' wpHS_val rfl (fun W hW => ?_) ?_
                    rotate_left
                    · have hcf := CF.out W hW; go_simp; rfl
                    simp only [Act.put, List.setIfInBounds_toArray, List.set_cons_zero, List.set_cons_succ]
                  refine' wpHS_call rfl (fun W => ?_) (fun W hW => ?_) ?_
                  rotate_left 3
                  · go_simp; exact ⟨rfl, rfl⟩
                  · exact (rfless_any C S P x1 x2 W HVF.out HX1.out HX2.out).mono (fun e W1 h => ⟨h.1, bwStep hW h.2⟩)
                  simp only [Act.put, List.setIfInBounds_toArray, List.set_cons_zero, List.set_cons_succ]
                  repeat
                    refine' wpHS_val rfl (fun W hW => ?_) ?_
                    rotate_left
                    · have hcf := CF.out W hW; go_simp; rfl
                    simp only [Act.put, List.setIfInBounds_toArray, List.set_cons_zero, List.set_cons_succ]
                  refine' wpHS_call rfl (fun W => ?_) (fun W hW => ?_) ?_
                  rotate_left 3
                  · go_simp; exact ⟨rfl, rfl⟩
                  · exact (rdiv_n C S P sc (fsubN S P x1 x2) W HVF.out HSL.out (subN_lt HVF.out HX1.out HX2.out) HNE.out hs hp).mono (fun e W1 h => ⟨h.1, bwStep hW h.2⟩)
                  simp only [Act.put, List.setIfInBounds_toArray, List.set_cons_zero, List.set_cons_succ]
                  repeat
                    refine' wpHS_val rfl (fun W hW => ?_) ?_
                    rotate_left
                    · have hcf := CF.out W hW; go_simp; rfl
                    simp only [Act.put, List.setIfInBounds_toArray, List.set_cons_zero, List.set_cons_succ]
                  refine wpHS_nil ?_
                  intro w6 hb1
                  have HB6 := Lib.hid hb1
                  clear hb1
                  go_wp2
                  exact ⟨⟨k + 1, by omega, by go_num, by rw [HS1.out], by rw [HS2.out]; exact HB5.out.below HB6.out⟩, by simp [intOf]; omega⟩
              · obtain rfl : k = n := by omega
                have HOT : Hid (LtAll S (othL a i k)) := othL_lt HVF.out HLA.out i k
                have HOLE := Lib.hid (othL_length a i k)
                have HSC : Hid (sclF S P a i y k < S) := sclF_lt HVF.out HYI.out i k
                have HFR : Hid (fromRes C S P (zl (othL a i k)) = (zl (fromL S P (othL a i k) (othL a i k).length), 0)) := fromRes_ok HVF.out HOT.out (by have := HOLE.out; omega)
                have HSR : Hid (scaleRes C S P (zl (fromL S P (othL a i k) (othL a i k).length)) (sclF S P a i y k : Nat) = (zl (lagT S P a b i), 0)) := by
                  show _ = _
                  rw [scaleRes_ok HVF.out (fromL_lt HVF.out HOT.out _) (fromL_trimmed _ _) (by rw [fromL_length]; have := HOLE.out; omega) HSC.out]
                  unfold lagT
                  rw [HYE.out, ← HNN.out]
                have HAR : Hid (addRes C S P (zl (lagL S P a b i)) (zl (lagT S P a b i)) = (zl (lagL S P a b (i + 1)), 0)) := by
                  show _ = _
                  have l1 := lagL_length (s := S) (p := P) a b i
                  have l2 := lagT_length (s := S) (p := P) a b i
                  have l3 := HNN.out
                  rw [addRes_ok HVF.out (lagL_lt HVF.out a b i) (lagL_trimmed a b i) (by omega) (lagT_lt HVF.out a b i) (scaleL_trimmed _ _) (by omega)]
                  rfl
                obtain ⟨A1, n1, c1, rfl, hq1⟩ := hO.out.ints.parts
                obtain ⟨A3, n3, c3, rfl, hq3⟩ := hP.out.parts
                have HQ1 := Lib.hid hq1
                have HQ3 := Lib.hid hq3
                have HB0 : Hid (Abv w4 wr) := bwStep hA.out hO.out.B
                have HQ3' := Lib.hid (HQ3.out.below hO.out.B)
                obtain ⟨f0, f1, f2⟩ := fldC_cells (HX0.out.below HB0.out)
                clear hq1 hq3 hb1
                generalize sclF S P a i y k = sc at *
                go_wp2_with fail
                refine (rFromRoots_n C S P A1 n1 c1 _ _ hs hp HQ1.out).mono ?_
                rintro e w5 ⟨v5, rfl, hI5, hb5⟩
                rw [HFR.out] at hI5 ⊢
                have HB5 : Hid (Abv w4 w5) := bwStep HB0.out hb5
                have HN5 := Lib.hid hb5
                obtain ⟨A5, n5, c5, rfl, hq5⟩ := hI5.parts
                have HQ5 := Lib.hid hq5
                clear hI5 hb5 hq5 f0 f1 f2
                obtain ⟨f0, f1, f2⟩ := fldC_cells (HX0.out.below HB5.out)
                go_wp2_with fail
                refine (rScale_n C S P sc A5 n5 c5 _ _ hs hp HQ5.out).mono ?_
                rintro e w6 ⟨v6, rfl, hI6, hb6⟩
                rw [HSR.out] at hI6 ⊢
                have HB6 : Hid (Abv w4 w6) := bwStep HB5.out hb6
                have HN6 := Lib.hid hb6
                obtain ⟨A6, n6, c6, rfl, hq6⟩ := hI6.parts
                have HQ6 := Lib.hid hq6
                clear hI6 hb6 hq6 f0 f1 f2
                obtain ⟨f0, f1, f2⟩ := fldC_cells (HX0.out.below HB6.out)
                go_wp2_with fail
                refine (rAdd_n C S P A3 n3 c3 _ A6 n6 c6 _ _ hs hp ((HQ3'.out.below HN5.out).below HN6.out) HQ6.out).mono ?_
                rintro e w7 ⟨v7, rfl, hI7, hb7⟩
                rw [HAR.out] at hI7 ⊢
                have HB7 : Hid (Abv w4 w7) := bwStep HB6.out hb7
                have HI7 := Lib.hid hI7
                clear hI7 hb7 f0 f1 f2
                go_wp2_with fail
                exact ⟨⟨i + 1, by omega, by go_num, HB7, HI7⟩, by simp [intOf]; omega⟩
          · obtain rfl : i = n := by omega
            go_wp2
            go_ret2
            exact RetL.mk HF.out hP.out (bwStep HBF.out hA.out)
      · have HF : Hid (RES = ([], 30)) := by
          show _ = _
          rw [← HRES.out, if_pos (by have h5 := HNN.out; have h6 := HMM.out; omega), if_neg hnd]
        have HND : Hid ((!decide a.Nodup) = true) := by show _ = _; simp [hnd]
        clear hnd
        go_enter Try.func19, Try.ntmps19
        go_wp2_with (first
          | (go_at_call 59; refine (rvalid_any C S P _ hs hp).mono ?_; rintro e w1 ⟨rfl, hb1⟩; rw [HV.out]; have HB1 := Lib.hid hb1; clear hb1; obtain ⟨f0, f1, f2⟩ := HC.out _ HB1.out)
          | (go_at_call 60; ((with_reducible refine (EQ.out _ HB1.out).mono ?_); rintro e w2 ⟨rfl, hb2⟩; have HB2 := Lib.hid (bwStep HB1.out hb2); clear hb2 f0 f1 f2; obtain ⟨g0, g1, g2⟩ := HC.out _ HB2.out))
          | (go_at_call 60; refine (ER.out _ HB2.out).mono ?_; rintro e w3 ⟨rfl, hb3⟩; have HB3 := Lib.hid (bwStep HB2.out hb3); clear hb3 g0 g1 g2; obtain ⟨k0, k1, k2⟩ := HC.out _ HB3.out)
          | (go_at_call 61; refine (twice_any a n HNN.out A ca _ (by omega) (HQ.out.below HB3.out).rd).mono ?_; rintro e w4 ⟨rfl, hb4⟩; rw [HND.out]; have HB4 := Lib.hid (bwStep HB3.out hb4); clear hb4 k0 k1 k2))
        go_ret2
        exact RetL.mk HF.out (Ints.nil_ _) (bw1 HB4.out)
  · have HF : Hid (RES = ([], 7)) := by
      show _ = _
      rw [← HRES.out, if_neg (by have h5 := HNN.out; have h6 := HMM.out; omega)]
    have z1 : ((n : Int) != (m : Int)) = true := by rw [bne_iff_ne]; omega
    go_enter Try.func19, Try.ntmps19
    go_wp2_with (first
      | (go_at_call 59; refine (rvalid_any C S P _ hs hp).mono ?_; rintro e w1 ⟨rfl, hb1⟩; rw [HV.out]; have HB1 := Lib.hid hb1; clear hb1; obtain ⟨f0, f1, f2⟩ := HC.out _ HB1.out)
      | (go_at_call 60; ((with_reducible refine (EQ.out _ HB1.out).mono ?_); rintro e w2 ⟨rfl, hb2⟩; have HB2 := Lib.hid (bwStep HB1.out hb2); clear hb2 f0 f1 f2; obtain ⟨g0, g1, g2⟩ := HC.out _ HB2.out))
      | (go_at_call 60; refine (ER.out _ HB2.out).mono ?_; rintro e w3 ⟨rfl, hb3⟩; have HB3 := Lib.hid (bwStep HB2.out hb3); clear hb3 g0 g1 g2; obtain ⟨k0, k1, k2⟩ := HC.out _ HB3.out))
    go_ret2
    exact RetL.mk HF.out (Ints.nil_ _) (bw1 HB3.out)
end Go.Proofs.Ythpcneeidhmdkaa
namespace Go.Proofs.Ythpcneeidhmdkaa
set_option linter.unusedVariables false
set_option linter.unusedSectionVars false
open Fl
/-! interpolation: the plain law -/
section
variable {K : Type} [Fl K]
/-- times x - r -/
def mx (r : K) (f : Nat → K) : Nat → K := fun n => sh f n - r * f n
theorem mx_sup {r : K} {f : Nat → K} {d : Nat} (h : Sup d f) : Sup (d + 1) (mx r f) := by
  intro i hi
  obtain ⟨i, rfl⟩ : ∃ k, i = k + 1 := ⟨i - 1, by omega⟩
  show f i - r * f (i + 1) = 0
  rw [h i (by omega), h (i + 1) (by omega), fmul_zero, fsub_self]
theorem evs_sh (x : K) (f : Nat → K) (n : Nat) : evs x (sh f) (n + 1) = x * evs x f n := by
  rw [evs_succ]
  show 0 + x * evs x (tlS (sh f)) n = _
  rw [fzero_add]; rfl
theorem evs_mx {x r : K} {f : Nat → K} {d : Nat} (h : Sup d f) : evs x (mx r f) (d + 1) = (x - r) * evs x f d := by
  rw [show evs x (mx r f) (d + 1) = evs x (fun k => sh f k - r * f k) (d + 1) from rfl, evs_sub x (sh f) (fun k => r * f k), evs_sh, evs_smul, evs_ext h (Nat.le_succ d), fsub_mul]
theorem mx_top {r : K} {f : Nat → K} {d : Nat} (h : Sup (d + 1) f) : mx r f (d + 1) = f d := by
  show f d - r * f (d + 1) = f d
  rw [h (d + 1) (Nat.le_refl _), fmul_zero, fsub_zero]
theorem cst_sup (r : K) : Sup 1 (cst r) := fun i hi => by unfold cst; rw [if_neg (by omega)]
theorem evs_cst (x r : K) : evs x (cst r) 1 = r := by
  rw [evs_succ]
  show r + x * 0 = r
  rw [fmul_zero, fadd_zero]
/-- equal values at many points -/
theorem eq_of_values {f g : Nat → K} {n : Nat} (hf : Sup n f) (hg : Sup n g) (pt : Nat → K) (hd : ∀ i j, i < n → j < n → pt i = pt j → i = j) (hv : ∀ m, m < n → evs (pt m) f n = evs (pt m) g n) (i : Nat) : f i = g i := by
  have := roots_bound (f := fun k => f k - g k) (n := n) (fun i hi => by show f i - g i = 0; rw [hf i hi, hg i hi, fsub_self]) ((List.range n).map pt)
    (nodup_map (fun a ha b hb e => hd a b (List.mem_range.1 ha) (List.mem_range.1 hb) e) List.nodup_range) (by simp) (fun x hx => by
      obtain ⟨m, hm, rfl⟩ := List.mem_map.1 hx
      rw [evs_sub, hv m (List.mem_range.1 hm), fsub_self]) i
  exact fsub_eq_zero.1 this
variable (px py : Nat → K) (iv : K → K)
/-- divided differences -/
def dvd_ : Nat → Nat → K
  | 0, i => py i
  | j + 1, i => if j + 1 ≤ i then (dvd_ j i - dvd_ j (i - 1)) * iv (px i - px (i - (j + 1))) else dvd_ j i
theorem dvd_stay (j i : Nat) (h : i ≤ j) : dvd_ px py iv j i = dvd_ px py iv i i := by
  induction j with
  | zero => rw [show i = 0 from by omega]
  | succ j ih =>
    by_cases e : i = j + 1
    · rw [e]
    · show (if j + 1 ≤ i then _ else _) = _
      rw [if_neg (by omega), ih (by omega)]
def nwW (a : Nat) : Nat → Nat → K
  | 0 => cst 1
  | j + 1 => mx (px (a + j)) (nwW a j)
def nwP (a : Nat) : Nat → Nat → K
  | 0 => cst (py a)
  | j + 1 => fun n => nwP a j n + dvd_ px py iv (j + 1) (a + j + 1) * nwW px a (j + 1) n
theorem nwW_sup (a j : Nat) : Sup (j + 1) (nwW px a j) := by
  induction j with
  | zero => exact cst_sup 1
  | succ j ih => exact mx_sup ih
theorem nwW_top (a j : Nat) : nwW px a j j = 1 := by
  induction j with
  | zero => rfl
  | succ j ih => exact (mx_top (nwW_sup px a j)).trans ih
theorem nwW_succ (x : K) (a j : Nat) : evs x (nwW px a (j + 1)) (j + 2) = (x - px (a + j)) * evs x (nwW px a j) (j + 1) := evs_mx (nwW_sup px a j)
theorem nwW_zero (a j m : Nat) (hm : m < j) : evs (px (a + m)) (nwW px a j) (j + 1) = 0 := by
  induction j with
  | zero => omega
  | succ j ih =>
    rw [nwW_succ]
    by_cases e : m = j
    · subst e; rw [fsub_self, fzero_mul]
    · rw [ih (by omega), fmul_zero]
theorem nwP_sup (a j : Nat) : Sup (j + 1) (nwP px py iv a j) := by
  induction j with
  | zero => exact cst_sup _
  | succ j ih =>
    intro i hi
    show nwP px py iv a j i + _ * nwW px a (j + 1) i = 0
    rw [ih i (by omega), nwW_sup px a (j + 1) i hi, fmul_zero, fadd_zero]
theorem nwP_top (a j : Nat) : nwP px py iv a j j = dvd_ px py iv j (a + j) := by
  cases j with
  | zero => rfl
  | succ j =>
    show nwP px py iv a j (j + 1) + _ * nwW px a (j + 1) (j + 1) = _
    rw [nwP_sup px py iv a j (j + 1) (Nat.le_refl _), nwW_top, fmul_one, fzero_add]
    rfl
theorem nwP_succ (x : K) (a j : Nat) : evs x (nwP px py iv a (j + 1)) (j + 2) = evs x (nwP px py iv a j) (j + 1) + dvd_ px py iv (j + 1) (a + j + 1) * evs x (nwW px a (j + 1)) (j + 2) := by
  rw [← evs_ext (nwP_sup px py iv a j) (Nat.le_succ (j + 1)), ← evs_smul, ← evs_add]
  rfl
/-- Newton's polynomial takes the values -/
theorem nwP_val {n : Nat} (hd : ∀ i j, i < n → j < n → px i = px j → i = j) (hiv : ∀ u, u ≠ 0 → u * iv u = 1) (j : Nat) : ∀ a, a + j < n → ∀ m, m ≤ j → evs (px (a + m)) (nwP px py iv a j) (j + 1) = py (a + m) := by
  induction j with
  | zero =>
    intro a ha m hm
    obtain rfl : m = 0 := by omega
    exact evs_cst _ _
  | succ j ih =>
    intro a ha m hm
    have hx : px (a + j + 1) - px a ≠ 0 := fun e => by
      have := hd _ _ (by omega) (by omega) (fsub_eq_zero.1 e); omega
    by_cases hmj : m ≤ j
    · rw [nwP_succ, nwW_zero px a (j + 1) m (by omega), fmul_zero, fadd_zero]
      exact ih a (by omega) m hmj
    · obtain rfl : m = j + 1 := by omega
      -- the combination of the two shorter ones
      let M : Nat → K := fun k => (mx (px a) (nwP px py iv (a + 1) j) k - mx (px (a + j + 1)) (nwP px py iv a j) k) * iv (px (a + j + 1) - px a)
      have hMs : Sup (j + 2) M := fun i hi => by
        show (_ - _) * _ = 0
        rw [mx_sup (nwP_sup px py iv (a + 1) j) i hi, mx_sup (nwP_sup px py iv a j) i hi, fsub_self, fzero_mul]
      have hMv : ∀ x, evs x M (j + 2) = ((x - px a) * evs x (nwP px py iv (a + 1) j) (j + 1) - (x - px (a + j + 1)) * evs x (nwP px py iv a j) (j + 1)) * iv (px (a + j + 1) - px a) := by
        intro x
        have e : evs x M (j + 2) = iv (px (a + j + 1) - px a) * evs x (fun k => mx (px a) (nwP px py iv (a + 1) j) k - mx (px (a + j + 1)) (nwP px py iv a j) k) (j + 2) := by
          rw [← evs_smul]
          exact evs_congr fun i _ => fmul_comm _ _
        rw [e, evs_sub, evs_mx (nwP_sup px py iv (a + 1) j), evs_mx (nwP_sup px py iv a j), fmul_comm]
      have hMt : M (j + 1) = dvd_ px py iv (j + 1) (a + j + 1) := by
        show (mx (px a) (nwP px py iv (a + 1) j) (j + 1) - mx (px (a + j + 1)) (nwP px py iv a j) (j + 1)) * _ = (if j + 1 ≤ a + j + 1 then _ else _)
        rw [mx_top (nwP_sup px py iv (a + 1) j), mx_top (nwP_sup px py iv a j), nwP_top, nwP_top, if_pos (by omega), show a + 1 + j = a + j + 1 from by omega, show a + j + 1 - 1 = a + j from by omega, show a + j + 1 - (j + 1) = a from by omega]
      have hMm : ∀ m, m ≤ j + 1 → evs (px (a + m)) M (j + 2) = py (a + m) := by
        intro m hm
        rw [hMv]
        by_cases h0 : m = 0
        · subst h0
          rw [ih a (by omega) 0 (Nat.zero_le _), show a + 0 = a from rfl, fsub_self, fzero_mul, fzero_sub, ← fneg_mul]
          rw [show -(px a - px (a + j + 1)) = px (a + j + 1) - px a from by rw [fsub_def, fneg_add_distrib, fneg_neg, fsub_def, fadd_comm]]
          rw [fmul_comm (px (a + j + 1) - px a), fmul_assoc, hiv _ hx, fmul_one]
        · by_cases h1 : m = j + 1
          · subst h1
            have e1 := ih (a + 1) (by omega) j (Nat.le_refl _)
            rw [show a + 1 + j = a + (j + 1) from by omega] at e1
            rw [e1, show a + j + 1 = a + (j + 1) from rfl, fsub_self, fzero_mul, fsub_zero, fmul_comm (px (a + (j + 1)) - px a), fmul_assoc]
            exact (congrArg (fun z => py (a + (j + 1)) * z) (hiv _ hx)).trans (fmul_one _)
          · have e1 := ih (a + 1) (by omega) (m - 1) (by omega)
            rw [show a + 1 + (m - 1) = a + m from by omega] at e1
            rw [e1, ih a (by omega) m (by omega), ← fsub_mul]
            rw [show px (a + m) - px a - (px (a + m) - px (a + j + 1)) = px (a + j + 1) - px a from by
              simp only [fsub_def, fneg_add_distrib, fneg_neg]
              rw [show px (a + m) + -px a + (-px (a + m) + px (a + j + 1)) = (px (a + m) + -px (a + m)) + (px (a + j + 1) + -px a) from by ac_rfl, fadd_neg, fzero_add]]
            rw [fmul_comm (px (a + j + 1) - px a), fmul_assoc, hiv _ hx, fmul_one]
      -- equal values at j + 1 points, equal highest coefficients
      have hsup : Sup (j + 1) (fun k => nwP px py iv a (j + 1) k - M k) := fun i hi => by
        show nwP px py iv a (j + 1) i - M i = 0
        by_cases e : i = j + 1
        · subst e; rw [nwP_top, hMt, show a + (j + 1) = a + j + 1 from rfl, fsub_self]
        · rw [nwP_sup px py iv a (j + 1) i (by omega), hMs i (by omega), fsub_self]
      have hz := roots_bound hsup ((List.range (j + 1)).map fun m => px (a + m))
        (nodup_map (fun u hu v hv e => by have := hd _ _ (by have := List.mem_range.1 hu; omega) (by have := List.mem_range.1 hv; omega) e; omega) List.nodup_range) (by simp) (fun x hx => by
          obtain ⟨m, hm, rfl⟩ := List.mem_map.1 hx
          have hm' : m ≤ j := by have := List.mem_range.1 hm; omega
          have e0 := evs_ext (x := px (a + m)) hsup (Nat.le_succ (j + 1))
          rw [← e0, evs_sub, nwP_succ, nwW_zero px a (j + 1) m (by omega), fmul_zero, fadd_zero, ih a (by omega) m hm', hMm m (by omega), fsub_self])
      have e2 : evs (px (a + (j + 1))) (nwP px py iv a (j + 1)) (j + 2) = evs (px (a + (j + 1))) M (j + 2) := evs_congr fun i _ => fsub_eq_zero.1 (hz i)
      rw [e2]
      exact hMm (j + 1) (Nat.le_refl _)
/-- Horner's scheme on Newton's form -/
def hvl (x : K) (n : Nat) (d : Nat → K) : Nat → K
  | 0 => 0
  | k + 1 => (x - px (n - 1 - k)) * hvl x n d k + d (n - 1 - k)
def nsm (x : K) (d : Nat → K) : Nat → K
  | 0 => 0
  | t + 1 => nsm x d t + d t * evs x (nwW px 0 t) (t + 1)
theorem hvl_sum (x : K) (n : Nat) (d : Nat → K) (k : Nat) (hk : k ≤ n) : hvl px x n d k * evs x (nwW px 0 (n - k)) (n - k + 1) + nsm px x d (n - k) = nsm px x d n := by
  induction k with
  | zero => rw [show hvl px x n d 0 = 0 from rfl, fzero_mul, fzero_add, Nat.sub_zero]
  | succ k ih =>
    rw [← ih (by omega)]
    obtain ⟨t, ht⟩ : ∃ t, n - k = t + 1 := ⟨n - k - 1, by omega⟩
    rw [ht, show n - (k + 1) = t from by omega]
    show ((x - px (n - 1 - k)) * hvl px x n d k + d (n - 1 - k)) * evs x (nwW px 0 t) (t + 1) + nsm px x d t = hvl px x n d k * evs x (nwW px 0 (t + 1)) (t + 2) + (nsm px x d t + d t * evs x (nwW px 0 t) (t + 1))
    rw [nwW_succ, show n - 1 - k = t from by omega, Nat.zero_add, fadd_mul]
    generalize evs x (nwW px 0 t) (t + 1) = u
    generalize nsm px x d t = v
    generalize hvl px x n d k = z
    rw [show (x - px t) * z * u = z * ((x - px t) * u) from by ac_rfl]
    ac_rfl
theorem nsm_newton (x : K) (d : Nat → K) (j : Nat) (hdd : ∀ t, t ≤ j → d t = dvd_ px py iv t t) : nsm px x d (j + 1) = evs x (nwP px py iv 0 j) (j + 1) := by
  induction j with
  | zero =>
    show 0 + d 0 * evs x (cst 1) 1 = evs x (cst (py 0)) 1
    rw [evs_cst, evs_cst, hdd 0 (Nat.le_refl _), fmul_one, fzero_add]; rfl
  | succ j ih =>
    rw [nwP_succ, ← ih fun t ht => hdd t (by omega)]
    show nsm px x d (j + 1) + d (j + 1) * _ = _
    rw [hdd (j + 1) (Nat.le_refl _), Nat.zero_add]
end
end Go.Proofs.Ythpcneeidhmdkaa
namespace Go.Proofs.Ythpcneeidhmdkaa
set_option linter.unusedVariables false
set_option linter.unusedSectionVars false
open Fl
/-! interpolation: the lists -/
section
variable {c s p : Nat} (h : VF c s p)
/-- the value of a list -/
def vl (x : KF h) (l : List Nat) : KF h := evs x (co h l) l.length
include h
theorem vl_of (x : KF h) {l : List Nat} {n : Nat} (hn : l.length ≤ n) : evs x (co h l) n = vl h x l := evs_ext (co_sup h l) hn
theorem vl_congr {x : KF h} {l : List Nat} {f : Nat → KF h} (e : ∀ i, co h l i = f i) {n : Nat} (hf : Sup n f) : vl h x l = evs x f n := by
  have e1 : evs x (co h l) (max n l.length) = evs x f (max n l.length) := evs_congr fun i _ => e i
  rw [← vl_of h x (Nat.le_max_right n l.length), e1, evs_ext hf (Nat.le_max_left _ _)]
theorem horn_vl {x : Nat} (hx : x < s) {l : List Nat} (hl : LtAll s l) : mkK h (hornN s p x l) = vl h (mkK h x) l := horn_co h hx l (ltAll_mem hl)
theorem prev_co {l : List Nat} (c j : Nat) : mkK h (prevN l c j) = sh (co h l) j + cst (mkK h c) j := by
  unfold prevN
  cases j with
  | zero => rw [if_pos rfl]; show _ = 0 + mkK h c; rw [fzero_add]
  | succ j => rw [if_neg (by omega)]; show mkK h (l.getD j 0) = co h l j + 0; rw [fadd_zero]; rfl
theorem co_extL {l : List Nat} (hl : LtAll s l) {r c : Nat} (hr : r < s) (hc : c < s) (j : Nat) : co h (extL s p l r c) j = mx (mkK h r) (co h l) j + cst (mkK h c) j := by
  have hpl : ∀ j, prevN l c j < s := fun j => by
    unfold prevN; split
    · exact hc
    · exact hl _
  have e0 : mx (mkK h r) (co h l) j + cst (mkK h c) j = mkK h (prevN l c j) - mkK h r * co h l j := by
    rw [prev_co]
    show sh (co h l) j - _ + _ = _
    simp only [fsub_def]
    ac_rfl
  rw [e0]
  show mkK h ((extL s p l r c).getD j 0) = _
  unfold extL
  rw [eL_getD _ _ _ _ _ _ (Nat.le_refl _)]
  by_cases h1 : j < l.length
  · rw [if_pos h1, mkK_sub h (hpl j) (fmul_lt h _ _), mkK_mul h (hl j) hr, fmul_comm]; rfl
  · rw [if_neg h1, co_sup h l j (by omega), fmul_zero, fsub_zero]
    by_cases h2 : j = l.length
    · rw [if_pos h2]
    · rw [if_neg h2, mkK_zero]
      unfold prevN
      rw [if_neg (by omega), getD_ge (by omega), mkK_zero]
theorem vl_extL {l : List Nat} (hl : LtAll s l) {r c : Nat} (hr : r < s) (hc : c < s) (x : KF h) : vl h x (extL s p l r c) = (x - mkK h r) * vl h x l + mkK h c := by
  rw [vl_congr h (co_extL h hl hr hc) (n := l.length + 1) (fun i hi => by
    show mx (mkK h r) (co h l) i + cst (mkK h c) i = 0
    rw [mx_sup (co_sup h l) i hi, cst_sup (mkK h c) i (by omega), fadd_zero])]
  rw [evs_add, evs_mx (co_sup h l), evs_ext (cst_sup (mkK h c)) (by omega), evs_cst]
  rfl
theorem vl_fromL_succ {roots : List Nat} (hr : LtAll s roots) (k : Nat) (x : KF h) : vl h x (fromL s p roots (k + 1)) = (x - mkK h (roots.getD k 0)) * vl h x (fromL s p roots k) := by
  show vl h x (extL s p (fromL s p roots k) (roots.getD k 0) 0) = _
  rw [vl_extL h (fromL_lt h hr k) (hr k) (by have := h.two_le; omega), mkK_zero, fadd_zero]
theorem vl_fromL_zero (roots : List Nat) (x : KF h) : vl h x (fromL s p roots 0) = 1 := by
  show evs x (co h [1]) 1 = 1
  rw [evs_succ]
  show mkK h 1 + x * 0 = 1
  rw [mkK_one, fmul_zero, fadd_zero]
omit h in
theorem fromL_congr {roots roots' : List Nat} {k : Nat} (e : ∀ i, i < k → roots.getD i 0 = roots'.getD i 0) : fromL s p roots k = fromL s p roots' k := by
  induction k with
  | zero => rfl
  | succ k ih =>
    show extL s p (fromL s p roots k) (roots.getD k 0) 0 = extL s p (fromL s p roots' k) (roots'.getD k 0) 0
    rw [ih fun i hi => e i (by omega), e k (by omega)]
theorem vl_from_snoc {l : List Nat} (hl : LtAll s l) {r : Nat} (hr : r < s) (x : KF h) : vl h x (fromL s p (l ++ [r]) (l ++ [r]).length) = (x - mkK h r) * vl h x (fromL s p l l.length) := by
  rw [List.length_append]
  show vl h x (fromL s p (l ++ [r]) (l.length + 1)) = _
  rw [vl_fromL_succ h (ltAll_append hl hr), show (l ++ [r]).getD l.length 0 = r from by simp [List.getD], fromL_congr (roots := l ++ [r]) (roots' := l) (fun i hi => by simp [List.getD, List.getElem?_append_left hi])]
theorem co_scaleL {a : List Nat} (ha : LtAll s a) {b : Nat} (hb : b < s) (i : Nat) : co h (scaleL s p a b) i = mkK h b * co h a i := by
  unfold scaleL rgL
  rw [co_trim, co_map]
  split
  · rw [mkK_mul h (ha i) hb, fmul_comm]; rfl
  · rename_i hi
    rw [co_sup h a i (by omega), fmul_zero]
theorem vl_scaleL {a : List Nat} (ha : LtAll s a) {b : Nat} (hb : b < s) (x : KF h) : vl h x (scaleL s p a b) = mkK h b * vl h x a := by
  rw [vl_congr h (co_scaleL h ha hb) (n := a.length) (fun i hi => by show mkK h b * co h a i = 0; rw [co_sup h a i hi, fmul_zero]), evs_smul]
  rfl
theorem vl_addL {a b : List Nat} (ha : LtAll s a) (hb : LtAll s b) (x : KF h) : vl h x (addL s p a b) = vl h x a + vl h x b := by
  rw [vl_congr h (co_addL h ha hb) (n := max a.length b.length) (fun i hi => by
    show co h a i + co h b i = 0
    rw [co_sup h a i (by omega), co_sup h b i (by omega), fadd_zero]), evs_add, vl_of h x (Nat.le_max_left _ _), vl_of h x (Nat.le_max_right _ _)]
theorem vl_trim (x : KF h) (l : List Nat) : vl h x (trimL l) = vl h x l := vl_congr h (co_trim h l) (co_sup h l)
/-! Lagrange -/
theorem oth_zero {xs : List Nat} (hx : LtAll s xs) (i k m : Nat) (hm : m < k) (hmi : m ≠ i) : vl h (mkK h (xs.getD m 0)) (fromL s p (othL xs i k) (othL xs i k).length) = 0 := by
  induction k with
  | zero => omega
  | succ k ih =>
    unfold othL
    by_cases e : k = i
    · rw [if_pos e]; exact ih (by omega)
    · rw [if_neg e, vl_from_snoc h (othL_lt h hx i k) (hx k)]
      by_cases e2 : m = k
      · subst e2; rw [fsub_self, fzero_mul]
      · rw [ih (by omega), fmul_zero]
theorem oth_scale {xs : List Nat} (hx : LtAll s xs) (hd : xs.Nodup) {i k y : Nat} (hi : i < xs.length) (hk : k ≤ xs.length) (hy : y < s) :
    mkK h (sclF s p xs i y k) * vl h (mkK h (xs.getD i 0)) (fromL s p (othL xs i k) (othL xs i k).length) = mkK h y := by
  induction k with
  | zero =>
    show mkK h y * vl h _ (fromL s p [] 0) = _
    rw [vl_fromL_zero, fmul_one]
  | succ k ih =>
    have ih := ih (by omega)
    unfold othL sclF
    by_cases e : k = i
    · rw [if_pos e, if_pos e]; exact ih
    · rw [if_neg e, if_neg e, vl_from_snoc h (othL_lt h hx i k) (hx k)]
      have hne := nodup_getD hd hi (show k < xs.length by omega) (Ne.symm e)
      have h1 := subN_ne h (hx i) (hx k) hne
      have h2 := subN_lt h (hx i) (hx k)
      rw [mkK_mul h (sclF_lt h hy i k) (invN_lt h), ← mkK_sub h (hx i) (hx k)]
      have h3 := mkK_inv h h2 h1
      generalize mkK h (fsubN s p (xs.getD i 0) (xs.getD k 0)) = u at *
      generalize mkK h (finvN s p (fsubN s p (xs.getD i 0) (xs.getD k 0))) = v at *
      rw [show mkK h (sclF s p xs i y k) * v * (u * vl h (mkK h (xs.getD i 0)) (fromL s p (othL xs i k) (othL xs i k).length)) = (u * v) * (mkK h (sclF s p xs i y k) * vl h (mkK h (xs.getD i 0)) (fromL s p (othL xs i k) (othL xs i k).length)) from by ac_rfl, h3, fone_mul]
      exact ih
theorem lagT_val {xs ys : List Nat} (hx : LtAll s xs) (hy : LtAll s ys) (hd : xs.Nodup) {i m : Nat} (hi : i < xs.length) (hm : m < xs.length) :
    vl h (mkK h (xs.getD m 0)) (lagT s p xs ys i) = if m = i then mkK h (ys.getD i 0) else 0 := by
  unfold lagT
  rw [vl_scaleL h (fromL_lt h (othL_lt h hx _ _) _) (sclF_lt h (hy i) _ _)]
  by_cases e : m = i
  · subst e; rw [if_pos rfl]; exact oth_scale h hx hd hi (Nat.le_refl _) (hy m)
  · rw [if_neg e, oth_zero h hx i _ m hm e, fmul_zero]
theorem lagL_val {xs ys : List Nat} (hx : LtAll s xs) (hy : LtAll s ys) (hd : xs.Nodup) {i m : Nat} (hi : i ≤ xs.length) (hm : m < xs.length) :
    vl h (mkK h (xs.getD m 0)) (lagL s p xs ys i) = if m < i then mkK h (ys.getD m 0) else 0 := by
  induction i with
  | zero => rw [if_neg (by omega)]; rfl
  | succ i ih =>
    show vl h _ (addL s p (lagL s p xs ys i) (lagT s p xs ys i)) = _
    rw [vl_addL h (lagL_lt h xs ys i) (lagT_lt h xs ys i), ih (by omega), lagT_val h hx hy hd (by omega) hm]
    by_cases e : m = i
    · subst e; rw [if_neg (by omega), if_pos rfl, if_pos (by omega), fzero_add]
    · by_cases e2 : m < i
      · rw [if_pos e2, if_neg e, if_pos (by omega), fadd_zero]
      · rw [if_neg e2, if_neg e, if_neg (by omega), fadd_zero]
omit h in
theorem othL_len {xs : List Nat} (i k : Nat) (hi : i < k) : (othL xs i k).length < k := by
  induction k with
  | zero => omega
  | succ k ih =>
    unfold othL
    by_cases e : k = i
    · rw [if_pos e]; have := othL_length xs i k; omega
    · rw [if_neg e, List.length_append]; have := ih (by omega); simp only [List.length_cons, List.length_nil]; omega
omit h in
theorem lagL_len (xs ys : List Nat) (i : Nat) (hi : i ≤ xs.length) : (lagL s p xs ys i).length ≤ xs.length := by
  induction i with
  | zero => exact Nat.zero_le _
  | succ i ih =>
    refine Nat.le_trans (addL_length _ _) ?_
    have h1 := ih (by omega)
    have h2 : (lagT s p xs ys i).length ≤ xs.length := by
      refine Nat.le_trans (scaleL_length _ _) ?_
      rw [fromL_length]
      have := othL_len (xs := xs) i xs.length (by omega)
      omega
    omega
/-! Newton -/
theorem ddIn_getD {xs d : List Nat} (j t : Nat) (hl : d.length = xs.length) (ht : t ≤ xs.length - j) (i : Nat) (hi : i < xs.length) :
    (ddIn s p xs d j t).getD i 0 = if xs.length - t ≤ i then fmulN s p (fsubN s p (d.getD i 0) (d.getD (i - 1) 0)) (finvN s p (fsubN s p (xs.getD i 0) (xs.getD (i - j) 0))) else d.getD i 0 := by
  induction t generalizing i with
  | zero => rw [if_neg (by omega)]; rfl
  | succ t ih =>
    have ih := ih (by omega)
    show ((ddIn s p xs d j t).set (xs.length - 1 - t) _).getD i 0 = _
    by_cases e : i = xs.length - 1 - t
    · rw [e, getD_set_eq (by rw [ddIn_length, hl]; omega), ih (xs.length - 1 - t) (by omega), ih (xs.length - 1 - t - 1) (by omega), if_neg (by omega), if_neg (by omega), if_pos (by omega)]
    · rw [getD_set_ne' (Ne.symm e), ih i hi]
      by_cases e2 : xs.length - t ≤ i
      · rw [if_pos e2, if_pos (by omega)]
      · rw [if_neg e2, if_neg (by omega)]
def ivK : KF h → KF h := fun u => finv u
theorem ivK_mul (u : KF h) (hu : u ≠ 0) : u * ivK h u = 1 := fmul_inv hu
theorem mkK_finv {y : Nat} (hy : y < s) (h0 : y ≠ 0) : mkK h (finvN s p y) = ivK h (mkK h y) := by
  have h1 := mkK_inv h hy h0
  have h2 := ivK_mul h _ (mkK_ne h hy h0)
  rw [← h2] at h1
  exact fmul_left_cancel (mkK_ne h hy h0) h1
theorem ddO_co {xs ys : List Nat} (hx : LtAll s xs) (hy : LtAll s ys) (hd : xs.Nodup) (hl : ys.length = xs.length) (j : Nat) (i : Nat) (hi : i < xs.length) :
    mkK h ((ddO s p xs ys j).getD i 0) = dvd_ (co h xs) (co h ys) (ivK h) j i := by
  induction j generalizing i with
  | zero => rfl
  | succ j ih =>
    show mkK h ((ddIn s p xs (ddO s p xs ys j) (j + 1) (xs.length - (j + 1))).getD i 0) = (if j + 1 ≤ i then _ else _)
    rw [ddIn_getD h (j + 1) _ ((ddO_length _ _ _ _ _).trans hl) (Nat.le_refl _) i hi]
    have hlt := ddO_lt h (xs := xs) hy j
    by_cases e : j + 1 ≤ i
    · rw [if_pos (by omega), if_pos e]
      have hne := subN_ne h (hx i) (hx (i - (j + 1))) (nodup_getD hd hi (show i - (j + 1) < xs.length by omega) (by omega))
      rw [mkK_mul h (subN_lt h (hlt i) (hlt (i - 1))) (invN_lt h), mkK_sub h (hlt i) (hlt (i - 1)), mkK_finv h (subN_lt h (hx i) (hx _)) hne, mkK_sub h (hx i) (hx _), ih i hi, ih (i - 1) (by omega)]
      rfl
    · rw [if_neg (by omega), if_neg e]
      exact ih i hi
theorem nwt_val {xs d : List Nat} (hx : LtAll s xs) (hd : LtAll s d) (x : KF h) (k : Nat) : vl h x (nwt s p xs d k) = hvl (co h xs) x xs.length (co h d) k := by
  induction k with
  | zero => rfl
  | succ k ih =>
    show vl h x (extL s p (nwt s p xs d k) (xs.getD (xs.length - 1 - k) 0) (d.getD (xs.length - 1 - k) 0)) = _
    rw [vl_extL h (nwt_lt h hx hd k) (hx _) (hd _), ih]
    rfl
theorem pts_inj {xs : List Nat} (hx : LtAll s xs) (hd : xs.Nodup) (i j : Nat) (hi : i < xs.length) (hj : j < xs.length) (e : co h xs i = co h xs j) : i = j := by
  rcases Nat.lt_trichotomy i j with h1 | h1 | h1
  · exact absurd (mkK_inj h (hx i) (hx j) e) (nodup_getD hd hi hj (by omega))
  · exact h1
  · exact absurd (mkK_inj h (hx i) (hx j) e) (nodup_getD hd hi hj (by omega))
theorem interp_val {xs ys : List Nat} (hx : LtAll s xs) (hy : LtAll s ys) (hd : xs.Nodup) (hl : ys.length = xs.length) {m : Nat} (hm : m < xs.length) :
    vl h (mkK h (xs.getD m 0)) (interpL s p xs ys) = mkK h (ys.getD m 0) := by
  unfold interpL
  rw [vl_trim, nwt_val h hx (ddO_lt h hy _)]
  have h1 := hvl_sum (co h xs) (mkK h (xs.getD m 0)) xs.length (co h (ddO s p xs ys (xs.length - 1))) xs.length (Nat.le_refl _)
  rw [Nat.sub_self] at h1
  have h2 : evs (mkK h (xs.getD m 0)) (nwW (co h xs) 0 0) (0 + 1) = 1 := evs_cst _ _
  rw [h2, fmul_one, show nsm (co h xs) (mkK h (xs.getD m 0)) (co h (ddO s p xs ys (xs.length - 1))) 0 = 0 from rfl, fadd_zero] at h1
  rw [h1]
  obtain ⟨n, hn⟩ : ∃ n, xs.length = n + 1 := ⟨xs.length - 1, by omega⟩
  rw [hn]
  rw [nsm_newton (co h xs) (co h ys) (ivK h) _ _ n (fun t ht => by
    show mkK h ((ddO s p xs ys (n + 1 - 1)).getD t 0) = _
    rw [ddO_co h hx hy hd hl _ t (by omega)]
    exact dvd_stay _ _ _ _ _ (by omega))]
  have h3 := nwP_val (co h xs) (co h ys) (ivK h) (n := xs.length) (pts_inj h hx hd) (ivK_mul h) n 0 (by omega) m (by omega)
  rw [Nat.zero_add] at h3
  exact h3
theorem interp_len (xs ys : List Nat) : (interpL s p xs ys).length ≤ xs.length := by
  unfold interpL
  rw [trimL_length]
  exact Nat.le_trans (tl_le _ _) (by rw [nwt_length]; exact Nat.le_refl _)
theorem interp_lt {xs ys : List Nat} (hx : LtAll s xs) (hy : LtAll s ys) : LtAll s (interpL s p xs ys) := ltAll_trim (nwt_lt h hx (ddO_lt h hy _) _)
/-- a polynomial is given by its values -/
theorem interp_unique {xs ys l : List Nat} (hx : LtAll s xs) (hy : LtAll s ys) (hd : xs.Nodup) (hlen : ys.length = xs.length) (hl : LtAll s l) (tl : Trimmed l) (nl : l.length ≤ xs.length)
    (hv : ∀ m, m < xs.length → vl h (mkK h (xs.getD m 0)) l = mkK h (ys.getD m 0)) : interpL s p xs ys = l := by
  refine co_ext h (interp_lt h hx hy) hl (trimL_trimmed _) tl fun i => ?_
  refine eq_of_values (n := xs.length) ((co_sup h _).mono (interp_len h xs ys)) ((co_sup h _).mono nl) (co h xs) (pts_inj h hx hd) (fun m hm => ?_) i
  show evs (mkK h (xs.getD m 0)) _ _ = evs (mkK h (xs.getD m 0)) _ _
  rw [vl_of h _ (interp_len h xs ys), vl_of h _ nl, interp_val h hx hy hd hlen hm, hv m hm]
theorem interp_lag {xs ys : List Nat} (hx : LtAll s xs) (hy : LtAll s ys) (hd : xs.Nodup) (hlen : ys.length = xs.length) : interpL s p xs ys = lagL s p xs ys xs.length :=
  interp_unique h hx hy hd hlen (lagL_lt h _ _ _) (lagL_trimmed _ _ _) (lagL_len _ _ _ (Nat.le_refl _)) fun m hm => by
    rw [lagL_val h hx hy hd (Nat.le_refl _) hm, if_pos hm]
end
end Go.Proofs.Ythpcneeidhmdkaa
namespace Go.Proofs.Ythpcneeidhmdkaa
open Go.RowKit
set_option linter.unusedVariables false
set_option maxHeartbeats 1000000 in
theorem rInterp_no (c s p : Int) (q r : Sl) (w : World) (hs : s ≤ 9223372036854775807) (hp : p ≤ 9223372036854775807) (hq : q.R w) (hr : r.R w) (hV : (vldB c s p && inB s q.xs && inB s r.xs) = false) :
    Calls Try.prog 19 #[fldv c s p, q.v, r.v] w (RetL w ([], 1)) := by
  obtain ⟨A, n, ca, xs⟩ := q
  obtain ⟨B, m, cb, ys⟩ := r
  have hbx : Below w.heap.size w (w.alloc (fldB c s p)) := (Below.refl _ _).alloc (Nat.le_refl _) _
  have HQ := Lib.hid (hq.below hbx)
  have HR := Lib.hid (hr.below hbx)
  have CB : Hid (CellsAt (w.alloc (fldB c s p)) w.heap.size (fldC c s p)) := CellsAt.new _ _ _ _ rfl
  have HC : Hid (∀ w1, Below (w.alloc (fldB c s p)).heap.size (w.alloc (fldB c s p)) w1 → w1.cell? ⟨w.heap.size, 0, none⟩ = some (.int .i64 c) ∧ w1.cell? ⟨w.heap.size, 1, none⟩ = some (.int .i64 s) ∧ w1.cell? ⟨w.heap.size, 2, none⟩ = some (.int .i64 p)) := fun w1 hb => fldC_cells (CB.out.below hb)
  have EQ : Hid (∀ w1, Abv (w.alloc (fldB c s p)) w1 → Calls Try.prog 60 #[fldv c s p, .slice A n ca] w1 fun e w' => e = .returned (.bool (inB s xs)) ∧ Below w1.heap.size w1 w') := fun w1 hb => relements_any c s p ⟨A, n, ca, xs⟩ w1 (HQ.out.below hb)
  have ER : Hid (∀ w1, Abv (w.alloc (fldB c s p)) w1 → Calls Try.prog 60 #[fldv c s p, .slice B m cb] w1 fun e w' => e = .returned (.bool (inB s ys)) ∧ Below w1.heap.size w1 w') := fun w1 hb => relements_any c s p ⟨B, m, cb, ys⟩ w1 (HR.out.below hb)
  show Calls Try.prog 19 #[fldv c s p, .slice A n ca, .slice B m cb] w (RetL w ([], 1))
  clear hq hr hbx
  simp only at hV
  cases hv : vldB c s p with
  | false =>
    have HV := Lib.hid hv
    clear hv hV
    go_enter Try.func19, Try.ntmps19
    go_wp2_with (go_at_call 59; refine (rvalid_any c s p _ hs hp).mono ?_; rintro e w1 ⟨rfl, hb1⟩; rw [HV.out]; have HB1 := Lib.hid hb1; clear hb1)
    go_ret2
    exact RetL.mk rfl (Ints.nil_ _) (bw1 HB1.out)
  | true =>
    rw [hv] at hV
    have HV := Lib.hid hv
    clear hv
    cases hx : inB s xs with
    | false =>
      have HX := Lib.hid hx
      clear hx hV
      go_enter Try.func19, Try.ntmps19
      go_wp2_with (first
        | (go_at_call 59; refine (rvalid_any c s p _ hs hp).mono ?_; rintro e w1 ⟨rfl, hb1⟩; rw [HV.out]; have HB1 := Lib.hid hb1; clear hb1; obtain ⟨f0, f1, f2⟩ := HC.out _ HB1.out)
        | (go_at_call 60; refine (EQ.out _ HB1.out).mono ?_; rintro e w2 ⟨rfl, hb2⟩; rw [HX.out]; have HB2 := Lib.hid hb2; clear hb2))
      go_ret2
      exact RetL.mk rfl (Ints.nil_ _) (bw1 (bwStep HB1.out HB2.out))
    | true =>
      have HX := Lib.hid hx
      have HY : Hid (inB s ys = false) := by show _ = _; rw [hx] at hV; simpa using hV
      clear hx hV
      go_enter Try.func19, Try.ntmps19
      go_wp2_with (first
        | (go_at_call 59; refine (rvalid_any c s p _ hs hp).mono ?_; rintro e w1 ⟨rfl, hb1⟩; rw [HV.out]; have HB1 := Lib.hid hb1; clear hb1; obtain ⟨f0, f1, f2⟩ := HC.out _ HB1.out)
        | (go_at_call 60; ((with_reducible refine (EQ.out _ HB1.out).mono ?_); rintro e w2 ⟨rfl, hb2⟩; rw [HX.out]; have HB2 := Lib.hid (bwStep HB1.out hb2); clear hb2 f0 f1 f2; obtain ⟨g0, g1, g2⟩ := HC.out _ HB2.out))
        | (go_at_call 60; refine (ER.out _ HB2.out).mono ?_; rintro e w3 ⟨rfl, hb3⟩; rw [HY.out]; have HB3 := Lib.hid hb3; clear hb3))
      go_ret2
      exact RetL.mk rfl (Ints.nil_ _) (bw1 (bwStep HB2.out HB3.out))
theorem rInterp_any (c s p : Int) (q r : Sl) (w : World) (hs : s ≤ 9223372036854775807) (hp : p ≤ 9223372036854775807) (hq : q.R w) (hr : r.R w) (hn : q.n ≤ 4000) (hm : r.n ≤ 4000) :
    Calls Try.prog 19 #[fldv c s p, q.v, r.v] w (RetL w (interpRes c s p q.xs r.xs)) := by
  cases hV : (vldB c s p && inB s q.xs && inB s r.xs) with
  | false =>
    have : interpRes c s p q.xs r.xs = ([], 1) := by unfold interpRes; rw [hV]; rfl
    rw [this]; exact rInterp_no c s p q r w hs hp hq hr hV
  | true =>
    have hV' := hV
    rw [Bool.and_eq_true, Bool.and_eq_true] at hV'
    obtain ⟨C, S, P, rfl, rfl, rfl, hv⟩ := vld_nat hV'.1.1
    obtain ⟨A, n, ca, xs⟩ := q
    obtain ⟨B, m, cb, ys⟩ := r
    obtain ⟨a, e1, hla⟩ := inB_nat (by have := hv.two_le; omega) hV'.1.2
    obtain ⟨b, e2, hlb⟩ := inB_nat (by have := hv.two_le; omega) hV'.2
    simp only at e1 e2
    subst e1 e2
    have : interpRes C S P (zl a) (zl b) = (if a.length = b.length then (if a.Nodup then (zl (lagL S P a b a.length), 0) else ([], 30)) else ([], 7)) := by
      unfold interpRes
      rw [if_pos hV, zl_length, zl_length, nl_zl, nl_zl]
      by_cases h1 : a.length = b.length
      · rw [if_pos h1, if_pos h1]
        by_cases h2 : a.Nodup
        · rw [if_pos h2, if_pos ((nodup_zl a).2 h2), ← interp_lag hv hla hlb h2 h1.symm]; rfl
        · rw [if_neg h2, if_neg (fun h => h2 ((nodup_zl a).1 h))]
      · rw [if_neg h1, if_neg h1]
    rw [this]
    exact rInterp_yes C S P a b A n ca B m cb w hv hla hlb hn hm hs hp hq hr
theorem pInterp_n (c s p : Int) (A : Option Addr) (n ca : Nat) (xs : List Int) (B : Option Addr) (m cb : Nat) (ys : List Int) (w : World) (hp : p ≤ 9223372036854775807) (hq : (⟨A, n, ca, xs⟩ : Sl).R w) (hr : (⟨B, m, cb, ys⟩ : Sl).R w) (hn : n ≤ 4000) (hm : m ≤ 4000) :
    Calls Try.prog 18 #[fldv c s p, .slice A n ca, .slice B m cb] w (RetL w (interpRes c s p xs ys)) := pInterp_any c s p ⟨A, n, ca, xs⟩ ⟨B, m, cb, ys⟩ w hp hq hr hn hm
theorem rInterp_n (c s p : Int) (A : Option Addr) (n ca : Nat) (xs : List Int) (B : Option Addr) (m cb : Nat) (ys : List Int) (w : World) (hs : s ≤ 9223372036854775807) (hp : p ≤ 9223372036854775807) (hq : (⟨A, n, ca, xs⟩ : Sl).R w) (hr : (⟨B, m, cb, ys⟩ : Sl).R w) (hn : n ≤ 4000) (hm : m ≤ 4000) :
    Calls Try.prog 19 #[fldv c s p, .slice A n ca, .slice B m cb] w (RetL w (interpRes c s p xs ys)) := rInterp_any c s p ⟨A, n, ca, xs⟩ ⟨B, m, cb, ys⟩ w hs hp hq hr hn hm
end Go.Proofs.Ythpcneeidhmdkaa
