import Derived.Test.YthpcneeidhmdkaaM17
namespace Go.Proofs.Ythpcneeidhmdkaa
open Go.RowKit
set_option linter.unusedVariables false
/-! the reference: Eval -/
def pwN (s p x : Nat) : Nat → Nat
  | 0 => 1
  | k + 1 => fmulN s p (pwN s p x k) x
def smN (s p x : Nat) (a : List Nat) : Nat → Nat
  | 0 => 0
  | k + 1 => faddN s p (smN s p x a k) (fmulN s p (a.getD k 0) (pwN s p x k))
section
variable {c s p : Nat} (h : VF c s p)
include h
theorem pwN_lt (x k : Nat) : pwN s p x k < s := by
  cases k with
  | zero => have := h.two_le; show 1 < s; omega
  | succ k => exact fmul_lt h _ _
theorem smN_lt {x : Nat} {a : List Nat} (k : Nat) : smN s p x a k < s := by
  cases k with
  | zero => have := h.two_le; show 0 < s; omega
  | succ k => exact fadd_lt h _ _ (smN_lt k) (fmul_lt h _ _)
theorem pwN_co {x : Nat} (hx : x < s) (k : Nat) : mkK h (pwN s p x k) = (mkK h x) ^ k := by
  induction k with
  | zero => exact mkK_one h
  | succ k ih =>
    show mkK h (fmulN s p (pwN s p x k) x) = _
    rw [mkK_mul h (pwN_lt h x k) hx, ih]; rfl
theorem smN_co {x : Nat} (hx : x < s) {a : List Nat} (ha : LtAll s a) (k : Nat) : mkK h (smN s p x a k) = evs (mkK h x) (co h a) k := by
  induction k with
  | zero => exact mkK_zero h
  | succ k ih =>
    show mkK h (faddN s p (smN s p x a k) (fmulN s p (a.getD k 0) (pwN s p x k))) = _
    rw [mkK_add h (smN_lt h k) (fmul_lt h _ _), mkK_mul h (ha k) (pwN_lt h x k), ih, pwN_co h hx, evs_top]; rfl
theorem smN_horn {x : Nat} (hx : x < s) {a : List Nat} (ha : LtAll s a) : smN s p x a a.length = hornN s p x a :=
  mkK_inj h (smN_lt h _) (hornN_lt h x a (ltAll_mem ha)) (by rw [smN_co h hx ha, horn_vl h hx ha]; rfl)
end
set_option maxRecDepth 100000 in
set_option maxHeartbeats 2000000 in
theorem rEval_yes (C S P X : Nat) (a : List Nat) (A : Option Addr) (n ca : Nat) (w : World) (hs : (S : Int) ≤ 9223372036854775807) (hp : (P : Int) ≤ 9223372036854775807) (hv : VF C S P) (hX : X < S) (hla : LtAll S a) (hna : n ≤ 4097) (hV : pvB C S P (zl a) = true) (hI : isB S X = true) (hq : (⟨A, n, ca, zl a⟩ : Sl).R w) :
    Calls Try.prog 28 #[fldv C S P, .slice A n ca, .int .i64 X] w (RetI w (((hornN S P X a : Nat) : Int), 0)) := by
  have hbx : Below w.heap.size w (w.alloc (fldB C S P)) := (Below.refl _ _).alloc (Nat.le_refl _) _
  have HQ := Lib.hid (hq.below hbx)
  have CB : Hid (CellsAt (w.alloc (fldB C S P)) w.heap.size (fldC C S P)) := CellsAt.new _ _ _ _ rfl
  have HNN : Hid (n = a.length) := hq.hn.trans (zl_length a)
  have HVF := Lib.hid hv
  have HX := Lib.hid hX
  have HLA := Lib.hid hla
  have HV := Lib.hid hV
  have HI := Lib.hid hI
  clear hv hX hla hV hI hq hbx
  go_enter Try.func28, Try.ntmps28
  go_wp2_with (first
    | (go_at_call 46; refine (rpValid_n C S P A n ca (zl a) _ hs hp HQ.out).mono ?_; rintro e w1 ⟨rfl, hb1⟩; rw [HV.out]; have HB1 := Lib.hid hb1; clear hb1; obtain ⟨f0, f1, f2⟩ := fldC_cells (CB.out.below HB1.out))
    | (go_at_call 70; refine (element_any C S P X _).mono ?_; rintro e w2 ⟨rfl, hb2⟩; rw [HI.out]; have HB2 : Hid (Abv (w.alloc (fldB C S P)) w2) := bwStep HB1.out hb2; clear hb2 f0 f1 f2))
  have HX2 : Hid (CellsAt w2 w.heap.size (fldC C S P)) := CB.out.below HB2.out
  have HQ2 : Hid (RD w2 A (zl a)) := (HQ.out.below HB2.out).rd
  have HBF : Hid (Below w.heap.size w w2) := bw1 HB2.out
  clear HB1 HB2 HQ CB
  go_loopw [8, 9, 10] (fun sv pv iv wr => ∃ k : Nat, k ≤ n ∧ iv = .int .i64 k ∧ sv = .int .i64 ((smN S P X a k : Nat) : Int) ∧ pv = .int .i64 ((pwN S P X k : Nat) : Int) ∧ Hid (Abv w2 wr)) (fun _ _ iv _ => n - (intOf iv).toNat)
  case atStart => exact ⟨0, Nat.zero_le _, rfl, rfl, rfl, Below.refl _ _⟩
  case round =>
    obtain ⟨k, hk, rfl, rfl, rfl, hA⟩ := hrel
    by_cases hlt : k < n
    · obtain ⟨ad, rfl, hadw, hca⟩ := HQ2.out (by rw [zl_length, ← HNN.out]; omega)
      have HS1 : Hid (smN S P X a (k + 1) = faddN S P (smN S P X a k) (fmulN S P (a.getD k 0) (pwN S P X k))) := rfl
      have HP1 : Hid (pwN S P X (k + 1) = fmulN S P (pwN S P X k) X) := rfl
      have L1 : Hid (smN S P X a k < S) := smN_lt HVF.out k
      have L2 : Hid (pwN S P X k < S) := pwN_lt HVF.out X k
      have L3 : Hid (a.getD k 0 < S) := HLA.out k
      have CF : Hid (∀ W, Abv wr W → (W.cell? ⟨w.heap.size, 0, none⟩ = some (.int .i64 C) ∧ W.cell? ⟨w.heap.size, 1, none⟩ = some (.int .i64 S) ∧ W.cell? ⟨w.heap.size, 2, none⟩ = some (.int .i64 P)) ∧ W.cell? (ad.add k) = some (.int .i64 ((a.getD k 0 : Nat) : Int))) := by
        show ∀ W, _
        intro W hW
        have hb0 : Abv w2 W := bwStep hA.out hW
        refine ⟨fldC_cells (HX2.out.below hb0), ?_⟩
        rw [hb0.cell (by rw [block_of_add]; exact hadw), hca k (by rw [zl_length, ← HNN.out]; exact hlt), zl_getD]
      clear hca
      generalize smN S P X a k = s1 at *
      generalize pwN S P X k = p1 at *
      generalize a.getD k 0 = x1 at *
      go_wp2
      refine wp_region_S (S := Abv wr) 10 (by kernel_rfl) (by kernel_rfl) (bwDrew (Below.refl _ _)) ?_
      simp only [List.take_succ_cons, List.take_zero, List.drop_succ_cons, List.drop_zero]
      repeat
        refine' wpHS_val rfl (fun W hW => ?_) ?_
        rotate_left
        · have hcf := CF.out W hW; go_simp; rfl
        simp only [Act.put, List.setIfInBounds_toArray, List.set_cons_zero, List.set_cons_succ]
      refine' wpHS_call rfl (fun W => ?_) (fun W hW => ?_) ?_
      rotate_left 3
      · go_simp; exact ⟨rfl, rfl⟩
      · exact (rftimes_any C S P x1 p1 W HVF.out L3.out L2.out).mono (fun e W1 h => ⟨h.1, bwStep hW h.2⟩)
      simp only [Act.put, List.setIfInBounds_toArray, List.set_cons_zero, List.set_cons_succ]
      refine' wpHS_call rfl (fun W => ?_) (fun W hW => ?_) ?_
      rotate_left 3
      · go_simp; exact ⟨rfl, rfl⟩
      · exact (rfplus_any C S P s1 (fmulN S P x1 p1) W HVF.out L1.out (fmul_lt HVF.out _ _)).mono (fun e W1 h => ⟨h.1, bwStep hW h.2⟩)
      simp only [Act.put, List.setIfInBounds_toArray, List.set_cons_zero, List.set_cons_succ]
      refine wpHS_nil ?_
      intro w3 hb1
      have HB3 := Lib.hid hb1
      clear hb1
      obtain ⟨⟨f0, f1, f2⟩, -⟩ := CF.out w3 HB3.out
      go_wp2_with (go_at_call 53; refine (rftimes_any C S P p1 X _ HVF.out L2.out HX.out).mono ?_; rintro e w4 ⟨rfl, hb4⟩; have HB4 := Lib.hid hb4; clear hb4)
      exact ⟨⟨k + 1, by omega, by go_num, by rw [HS1.out], by rw [HP1.out], bwStep (bwStep hA.out HB3.out) HB4.out⟩, by simp [intOf]; omega⟩
    · obtain rfl : k = n := by omega
      have HE : Hid (smN S P X a k = hornN S P X a) := by show _ = _; rw [HNN.out]; exact smN_horn HVF.out HX.out HLA.out
      go_wp2
      go_ret2
      exact RetI.mk (by rw [HE.out]) (bwStep HBF.out hA.out)
set_option maxHeartbeats 1000000 in
theorem rEval_any (c s p x : Int) (q : Sl) (w : World) (hs : s ≤ 9223372036854775807) (hp : p ≤ 9223372036854775807) (hq : q.R w) :
    Calls Try.prog 28 #[fldv c s p, q.v, .int .i64 x] w (RetI w (evalRes c s p q.xs x)) := by
  obtain ⟨A, n, ca, xs⟩ := q
  have hbx : Below w.heap.size w (w.alloc (fldB c s p)) := (Below.refl _ _).alloc (Nat.le_refl _) _
  have HQ := Lib.hid (hq.below hbx)
  have CB : Hid (CellsAt (w.alloc (fldB c s p)) w.heap.size (fldC c s p)) := CellsAt.new _ _ _ _ rfl
  show Calls Try.prog 28 #[fldv c s p, .slice A n ca, .int .i64 x] w (RetI w (evalRes c s p xs x))
  cases hV : pvB c s p xs with
  | false =>
    have HV := Lib.hid hV
    have HF : Hid (evalRes c s p xs x = (0, 1)) := by show _ = _; unfold evalRes; rw [hV]; rfl
    clear hV hq hbx
    go_enter Try.func28, Try.ntmps28
    go_wp2_with (go_at_call 46; refine (rpValid_n c s p A n ca xs _ hs hp HQ.out).mono ?_; rintro e w1 ⟨rfl, hb1⟩; rw [HV.out]; have HB1 := Lib.hid hb1; clear hb1)
    go_ret2
    exact RetI.mk HF.out (bw1 HB1.out)
  | true =>
    cases hI : isB s x with
    | false =>
      have HV := Lib.hid hV
      have HI := Lib.hid hI
      have HF : Hid (evalRes c s p xs x = (0, 1)) := by show _ = _; unfold evalRes; rw [hV, hI]; rfl
      clear hV hI hq hbx
      go_enter Try.func28, Try.ntmps28
      go_wp2_with (first
        | (go_at_call 46; refine (rpValid_n c s p A n ca xs _ hs hp HQ.out).mono ?_; rintro e w1 ⟨rfl, hb1⟩; rw [HV.out]; have HB1 := Lib.hid hb1; clear hb1; obtain ⟨f0, f1, f2⟩ := fldC_cells (CB.out.below HB1.out))
        | (go_at_call 70; refine (element_any c s p x _).mono ?_; rintro e w2 ⟨rfl, hb2⟩; rw [HI.out]; have HB2 : Hid (Abv (w.alloc (fldB c s p)) w2) := bwStep HB1.out hb2; clear hb2 f0 f1 f2))
      go_ret2
      exact RetI.mk HF.out (bw1 HB2.out)
    | true =>
      obtain ⟨C, S, P, a, rfl, rfl, rfl, rfl, hv, hla, hta, hna⟩ := pvB_nat hV
      have hI' := hI
      unfold isB at hI'
      simp only [Bool.and_eq_true, decide_eq_true_eq] at hI'
      obtain ⟨X, rfl⟩ := Int.eq_ofNat_of_zero_le hI'.1
      have hX : X < S := by omega
      have hn : n = a.length := hq.hn.trans (zl_length a)
      rw [evalRes_ok hv hla hta hna hX]
      exact rEval_yes C S P X a A n ca w hs hp hv hX hla (by omega) hV hI hq
end Go.Proofs.Ythpcneeidhmdkaa
namespace Go.Proofs.Ythpcneeidhmdkaa
open Go.RowKit
set_option linter.unusedVariables false
/-! the reference: Roots -/
theorem rEval_n (C S P k : Nat) (a : List Nat) (A : Option Addr) (n ca : Nat) (w : World) (hs : (S : Int) ≤ 9223372036854775807) (hp : (P : Int) ≤ 9223372036854775807) (hv : VF C S P) (hk : k < S) (hla : LtAll S a) (hta : Trimmed a) (hna : a.length ≤ 4097) (hq : (⟨A, n, ca, zl a⟩ : Sl).R w) :
    Calls Try.prog 28 #[fldv C S P, .slice A n ca, .int .i64 k] w (RetI w (((hornN S P k a : Nat) : Int), 0)) := by
  rw [← evalRes_ok hv hla hta hna hk]
  exact rEval_any C S P k ⟨A, n, ca, zl a⟩ w hs hp hq
set_option maxRecDepth 100000 in
set_option maxHeartbeats 2000000 in
theorem rRoots_any (c s p : Int) (q : Sl) (w : World) (hs : s ≤ 9223372036854775807) (hp : p ≤ 9223372036854775807) (hq : q.R w) :
    Calls Try.prog 32 #[fldv c s p, q.v] w (RetL w (rootsRes c s p q.xs)) := by
  obtain ⟨A, n, ca, xs⟩ := q
  obtain ⟨i0, hi, hz0, hz1, hz2⟩ := info_parts intInfo
  have hbx : Below w.heap.size w (w.alloc (fldB c s p)) := (Below.refl _ _).alloc (Nat.le_refl _) _
  have HQ := Lib.hid (hq.below hbx)
  show Calls Try.prog 32 #[fldv c s p, .slice A n ca] w (RetL w (rootsRes c s p xs))
  have CB : Hid (CellsAt (w.alloc (fldB c s p)) w.heap.size (fldC c s p)) := CellsAt.new _ _ _ _ rfl
  cases hV : pvB c s p xs with
  | false =>
    have HV := Lib.hid hV
    have HF : Hid (rootsRes c s p xs = ([], 1)) := by show _ = _; unfold rootsRes; rw [hV]; rfl
    clear hV hq hbx
    go_enter Try.func32, Try.ntmps32
    go_wp2_with (go_at_call 46; refine (rpValid_n c s p A n ca xs _ hs hp HQ.out).mono ?_; rintro e w1 ⟨rfl, hb1⟩; rw [HV.out]; have HB1 := Lib.hid hb1; clear hb1)
    go_ret2
    exact RetL.mk HF.out (Ints.nil_ _) (bw1 HB1.out)
  | true =>
    obtain ⟨C, S, P, a, rfl, rfl, rfl, rfl, hv, hla, hta, hna⟩ := pvB_nat hV
    have HV := Lib.hid hV
    have hnn : n = a.length := hq.hn.trans (zl_length a)
    by_cases ha0 : a = []
    · have HF : Hid (rootsRes C S P (zl a) = ([], 12)) := by show _ = _; unfold rootsRes; rw [if_pos hV, ha0]; rfl
      have hn0 : n = 0 := by rw [hnn, ha0]; rfl
      subst hn0
      clear hV hv hla hta hna hnn ha0 hq hbx
      go_enter Try.func32, Try.ntmps32
      go_wp2_with (go_at_call 46; refine (rpValid_n C S P A 0 ca _ _ hs hp HQ.out).mono ?_; rintro e w1 ⟨rfl, hb1⟩; rw [HV.out]; have HB1 := Lib.hid hb1; clear hb1)
      go_ret2
      exact RetL.mk HF.out (Ints.nil_ _) (bw1 HB1.out)
    · have HF : Hid (rootsRes C S P (zl a) = (zl (rootsL S P a S), 0)) := by
        show _ = _
        unfold rootsRes
        rw [if_pos hV, if_neg (fun e => ha0 (by have := congrArg nl e; rw [nl_zl] at this; exact this)), nl_zl]; rfl
      have hn1 : 0 < n := by rw [hnn]; exact List.length_pos_iff.2 ha0
      have hS := hv.le
      have hS2 := hv.two_le
      have z1 : ((n : Int) == 0) = false := by rw [beq_eq_false_iff_ne]; omega
      have HVF := Lib.hid hv
      have HLA := Lib.hid hla
      have HTA := Lib.hid hta
      have HNA := Lib.hid hna
      clear hV hv hla hta hna hnn ha0 hq hbx
      go_enter Try.func32, Try.ntmps32
      go_wp2_with (go_at_call 46; refine (rpValid_n C S P A n ca _ _ hs hp HQ.out).mono ?_; rintro e w3 ⟨rfl, hb1⟩; rw [HV.out]; have HB1 := Lib.hid hb1; clear hb1)
      have HX : Hid (CellsAt w3 w.heap.size (fldC C S P)) := CB.out.below HB1.out
      have HQ3 : Hid ((⟨A, n, ca, zl a⟩ : Sl).R w3) := HQ.out.below HB1.out
      have HB3 : Hid (Below w.heap.size w w3) := bw1 HB1.out
      clear HB1 HQ CB
      go_loopw [6, 7] (fun v i wr => ∃ k : Nat, k ≤ S ∧ i = .int .i64 k ∧ Hid (OwnL w3 wr v (rootsL S P a k))) (fun _ i _ => S - (intOf i).toNat)
      case atStart => exact ⟨0, Nat.zero_le _, rfl, OwnL.start _⟩
      case round =>
        obtain ⟨k, hk, rfl, hO⟩ := hrel
        obtain ⟨f0, f1, f2⟩ := fldC_cells (HX.out.below hO.out.B)
        by_cases hlt : k < S
        · have HY := Lib.hid (@rootsL_yes S P a k)
          have HN0 := Lib.hid (@rootsL_no S P a k)
          have HLE := Lib.hid (rootsL_le S P a k)
          generalize hz : hornN S P k a = z at *
          have HZ := Lib.hid hz
          clear hz
          by_cases hz0 : z = 0
          · subst hz0
            have HYY := Lib.hid (HY.out rfl)
            go_wp2_with (first
              | (go_at_call 28; refine (rEval_n C S P k a A n ca _ hs hp HVF.out hlt HLA.out HTA.out HNA.out (HQ3.out.below hO.out.B)).mono ?_; rintro e w4 ⟨rfl, hb4⟩; rw [HZ.out]; have HB4 := Lib.hid hb4; clear hb4)
              | (at_builtin; refine wpList_append_read rfl _ _ _ rfl w3.heap.size 3 i0 _ Try.underlying24 hi hz0 hz1 hz2 rfl _ (rootsL S P a k).length (zl (rootsL S P a k)) rfl ((ownsRow_below hO.out.O HB4.out).alloc _) (some ⟨w4.heap.size, 0, none⟩) 1 1 [(k : Int)] rfl rfl (RD.one _ _ _ _ rfl) (by have := HLE.out; omega) (by have := (bwStep hO.out.B HB4.out).size; simp; omega) ?_; intro v5 w5 hown hg hat; have HP := Lib.hid (hO.out.push HB4.out hown hg); clear hown hg hat))
            exact ⟨⟨k + 1, by omega, by go_num, by rw [HYY.out]; exact HP.out⟩, by simp [intOf]; omega⟩
          · have HNN0 := Lib.hid (HN0.out hz0)
            have z2 : ((z : Int) == 0) = false := by rw [beq_eq_false_iff_ne]; omega
            clear hz0
            go_wp2_with (go_at_call 28; refine (rEval_n C S P k a A n ca _ hs hp HVF.out hlt HLA.out HTA.out HNA.out (HQ3.out.below hO.out.B)).mono ?_; rintro e w4 ⟨rfl, hb4⟩; rw [HZ.out]; have HB4 := Lib.hid hb4; clear hb4)
            exact ⟨⟨k + 1, by omega, by go_num, by rw [HNN0.out]; exact hO.out.below HB4.out⟩, by simp [intOf]; omega⟩
        · obtain rfl : k = S := by omega
          go_wp2
          go_ret2
          exact RetL.mk HF.out hO.out.ints (bwStep HB3.out hO.out.B)
end Go.Proofs.Ythpcneeidhmdkaa
