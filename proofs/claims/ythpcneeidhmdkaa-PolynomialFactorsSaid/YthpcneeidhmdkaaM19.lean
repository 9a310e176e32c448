import Derived.Test.YthpcneeidhmdkaaM18
namespace Go.Proofs.Ythpcneeidhmdkaa
open Go.RowKit
set_option linter.unusedVariables false
/-! the program's Scale -/
set_option maxHeartbeats 1000000 in
theorem scale1_any (C S P be bl rb ib x y k : Nat) (w : World) (hv : VF C S P) (hx : x < S) (hy : y < S) (ht : TabAt w S P be bl)
    (hr : CellsAt w rb (arcv C S be bl)) (hi : CellsAt w ib [.int .i64 (y : Int)]) :
    Calls Try.prog 76 #[.int .i64 (k : Nat), .int .i64 x, .pointer (some ⟨rb, 0, none⟩), .pointer (some ⟨ib, 0, none⟩)] w fun e w' => e = .returned (.int .i64 ((fmulN S P x y : Nat) : Int)) ∧ Below w.heap.size w w' := by
  have HV := Lib.hid hv
  have HX := Lib.hid hx
  have HY := Lib.hid hy
  have HT := Lib.hid ht
  obtain ⟨r0, r1, r2, r3⟩ := arcv_cells hr
  have hi0 : w.cell? ⟨ib, 0, none⟩ = some (.int .i64 (y : Int)) := hi.2 0 (by simp)
  clear hv hx hy ht hr hi
  go_enter Try.func76, Try.ntmps76
  go_wp2_with (go_at_call 77; refine (amul_any C S P be bl x y _ HV.out HX.out HY.out HT.out).mono ?_; rintro e w1 ⟨rfl, hb1⟩)
  go_ret
  exact ⟨rfl, hb1⟩
set_option maxRecDepth 100000 in
set_option maxHeartbeats 2000000 in
theorem pScale_any (c s p x : Int) (q : Sl) (w : World) (hp : p ≤ 9223372036854775807) (hq : q.R w) :
    Calls Try.prog 41 #[fldv c s p, q.v, .int .i64 x] w (RetL w (scaleRes c s p q.xs x)) := by
  obtain ⟨A, n, ca, xs⟩ := q
  have hbx : Below w.heap.size w ((w.alloc (fldB c s p)).alloc (.cells #[.int .i64 x] 3)) := ((Below.refl _ _).alloc (Nat.le_refl _) _).alloc (by simp) _
  have HBX := Lib.hid hbx
  have HQ := Lib.hid (hq.below hbx)
  show Calls Try.prog 41 #[fldv c s p, .slice A n ca, .int .i64 x] w (RetL w (scaleRes c s p xs x))
  have CB : Hid (CellsAt ((w.alloc (fldB c s p)).alloc (.cells #[.int .i64 x] 3)) w.heap.size (fldC c s p)) := (CellsAt.new _ _ _ _ rfl).alloc _
  have CA : Hid (CellsAt ((w.alloc (fldB c s p)).alloc (.cells #[.int .i64 x] 3)) (w.heap.size + 1) [.int .i64 x]) := CellsAt.new _ _ _ _ (by simp)
  cases hV : pvB c s p xs with
  | false =>
    have HV := Lib.hid hV
    have HF : Hid (scaleRes c s p xs x = ([], 1)) := by show _ = _; unfold scaleRes; rw [hV]; rfl
    clear hV hq hbx
    go_enter Try.func41, Try.ntmps41
    go_wp2_with (go_at_call 49; refine (pvalid1 c s p A n ca xs _ _ 24 hp (by simp) HQ.out).mono ?_; rintro e w1 ⟨rfl, hb1⟩; rw [HV.out]; have HB1 := Lib.hid hb1; clear hb1)
    go_ret2
    exact RetL.mk HF.out (Ints.nil_ _) (bwStep HBX.out HB1.out)
  | true =>
    have HV := Lib.hid hV
    cases hI : isB s x with
    | false =>
      have HI : Hid (inB s [x] = false) := (inB_one s x).trans hI
      have HF : Hid (scaleRes c s p xs x = ([], 1)) := by show _ = _; unfold scaleRes; rw [hV, hI]; rfl
      clear hV hI hq hbx
      go_enter Try.func41, Try.ntmps41
      go_wp2_with (first
        | (go_at_call 49; refine (pvalid1 c s p A n ca xs _ _ 24 hp (by simp) HQ.out).mono ?_; rintro e w1 ⟨rfl, hb1⟩; rw [HV.out]; have HB1 := Lib.hid hb1; clear hb1; obtain ⟨f0, f1, f2⟩ := fldC_cells (CB.out.below HB1.out); have hc1 := (CA.out.below HB1.out).2 0 (by simp))
        | (go_at_call 55; refine (elements_n c s p [x] 1 rfl _ 1 _ (by omega) (RD.one w1 x 3 _ rfl)).mono ?_; rintro e w2 ⟨rfl, hb2⟩; rw [HI.out]; have HB2 : Hid (Below w1.heap.size w1 w2) := bwStep (bwA _ _) hb2; clear hb2))
      go_ret2
      exact RetL.mk HF.out (Ints.nil_ _) (bwStep HBX.out (bwStep HB1.out HB2.out))
    | true =>
      have HI : Hid (inB s [x] = true) := (inB_one s x).trans hI
      obtain ⟨C, S, P, a, rfl, rfl, rfl, rfl, hv, hla, hta, hna⟩ := pvB_nat hV
      have hI' := hI
      unfold isB at hI'
      simp only [Bool.and_eq_true, decide_eq_true_eq] at hI'
      obtain ⟨X, rfl⟩ := Int.eq_ofNat_of_zero_le hI'.1
      have hX : X < S := by omega
      have HXX := Lib.hid hX
      have HNN : Hid (n = a.length) := hq.hn.trans (zl_length a)
      have hn7 : n ≤ 4097 := by have := HNN.out; omega
      have HF : Hid (scaleRes C S P (zl a) X = (zl (scaleL S P a X), 0)) := by show _ = _; unfold scaleRes; rw [hV, hI, nl_zl]; rfl
      have HG : Hid (trimL ((List.range n).map fun k => fmulN S P (a.getD k 0) X) = scaleL S P a X) := by show _ = _; rw [HNN.out]; rfl
      have HVF := Lib.hid hv
      have HLA := Lib.hid hla
      clear hV hI hI' hv hla hta hna hq hbx hX
      go_enter Try.func41, Try.ntmps41
      go_wp2_with (first
        | (go_at_call 49; refine (pvalid1 C S P A n ca (zl a) _ _ 24 hp (by simp) HQ.out).mono ?_; rintro e w1 ⟨rfl, hb1⟩; rw [HV.out]; have HB1 := Lib.hid hb1; clear hb1; obtain ⟨f0, f1, f2⟩ := fldC_cells (CB.out.below HB1.out); have hc1 := (CA.out.below HB1.out).2 0 (by simp))
        | (go_at_call 55; refine (elements_n C S P [(X : Int)] 1 rfl _ 1 _ (by omega) (RD.one w1 X 3 _ rfl)).mono ?_; rintro e w2 ⟨rfl, hb2⟩; rw [HI.out]; have HB2 : Hid (Below w1.heap.size w1 w2) := bwStep (bwA _ _) hb2; clear hb2 f0 f1 f2 hc1; obtain ⟨g0, g1, g2⟩ := fldC_cells ((CB.out.below HB1.out).below HB2.out))
        | (go_at_call 50; refine (newA_any C S P _ HVF.out).mono ?_; rintro e w3 ⟨be, bl, rfl, ht, hb3⟩; have HT := Lib.hid ht; have HB3 := Lib.hid hb3; clear ht hb3))
      clear g0 g1 g2
      have HX3 : Hid (CellsAt (w3.alloc (arc C S be bl)) w3.heap.size (arcv C S be bl)) := CellsAt.new _ _ _ _ rfl
      have HC3 : Hid (CellsAt (w3.alloc (arc C S be bl)) (w.heap.size + 1) [.int .i64 (X : Int)]) := (((CA.out.below HB1.out).below HB2.out).below HB3.out).alloc _
      have RA3 : Hid (RD (w3.alloc (arc C S be bl)) A (zl a)) := ((((HQ.out.below HB1.out).below HB2.out).rd).below HB3.out).alloc _
      have HT3 : Hid (TabAt (w3.alloc (arc C S be bl)) S P be bl) := HT.out.alloc _
      have HBF : Hid (Below w.heap.size w (w3.alloc (arc C S be bl))) := bwAlloc (bwStep (bwStep (bwStep HBX.out HB1.out) HB2.out) HB3.out) _
      generalize w3.alloc (arc C S be bl) = w4 at *
      generalize w3.heap.size = rb at *
      have HCL : Hid (∀ W k, Abv w4 W → k < n → Calls Try.prog 76 #[.int .i64 (k : Nat), .int .i64 ((a.getD k 0 : Nat) : Int), .pointer (some ⟨rb, 0, none⟩), .pointer (some ⟨w.heap.size + 1, 0, none⟩)] W (fun e W' => e = .returned (.int .i64 ((fmulN S P (a.getD k 0) X : Nat) : Int)) ∧ Below W.heap.size W W')) := by
        show ∀ W k, _
        intro W k hW hk
        exact scale1_any C S P be bl rb _ _ X k W HVF.out (HLA.out k) HXX.out (HT3.out.below hW) (HX3.out.below hW) (HC3.out.below hW)
      refine (transScale_any _ _ (fun k => fmulN S P (a.getD k 0) X) a n HNN.out A ca _ (by omega) RA3.out HCL.out).mono ?_
      rintro e w5 ⟨v5, rfl, hI, hb5⟩
      obtain ⟨A4, n4, c4, rfl, hn4, hnc4, -, hrd4⟩ := hI.n
      have HB5 := Lib.hid hb5
      have HN4 := Lib.hid hn4
      have HRD4 := Lib.hid hrd4
      have hn47 : n4 ≤ 100000 := by rw [hn4, List.length_map, List.length_range]; omega
      clear hI hb5 hn4 hrd4
      go_wp2_with (go_at_call 34; refine (Trim_n _ n4 HN4.out A4 c4 _ hn47 hnc4 HRD4.out).mono ?_; rintro e w6 ⟨v6, rfl, hI6, hb6⟩; rw [HG.out] at hI6; have HI6 := Lib.hid hI6; have HB6 := Lib.hid hb6; clear hI6 hb6)
      go_ret2
      exact RetL.mk HF.out HI6.out (bwStep (bwStep HBF.out HB5.out) HB6.out)
end Go.Proofs.Ythpcneeidhmdkaa
namespace Go.Proofs.Ythpcneeidhmdkaa
open Go.RowKit
set_option linter.unusedVariables false
/-! the reference: Derive -/
open Fl in
/-- a sum of k equal numbers -/
def dvN (s p x : Nat) : Nat → Nat
  | 0 => 0
  | k + 1 => faddN s p (dvN s p x k) x
section
variable {c s p : Nat} (h : VF c s p)
include h
theorem dvN_lt (x k : Nat) (hx : x < s) : dvN s p x k < s := by
  cases k with
  | zero => have := h.two_le; show 0 < s; omega
  | succ k => exact fadd_lt h _ _ (dvN_lt x k hx) hx
theorem dvN_co {x : Nat} (hx : x < s) (k : Nat) : mkK h (dvN s p x k) = tms k (mkK h x) := by
  induction k with
  | zero => exact mkK_zero h
  | succ k ih =>
    show mkK h (faddN s p (dvN s p x k) x) = tms k _ + _
    rw [mkK_add h (dvN_lt h x k hx) hx, ih]
theorem dvN_eq {x : Nat} (hx : x < s) (i : Nat) : dvN s p x (i % c) = fmulN s p (i % c) x := by
  have hc := char_le h
  have hm : i % c < s := by have := Nat.mod_lt i (show 0 < c by omega); omega
  refine mkK_inj h (dvN_lt h x _ hx) (fmul_lt h _ _) ?_
  have e : (mkK h x) = 1 * mkK h x := by rw [fone_mul]
  rw [dvN_co h hx, mkK_mul h hm hx, e, tms_mul, tms_one h, Nat.mod_mod, ← e]
end
set_option maxRecDepth 100000 in
set_option maxHeartbeats 20000000 in
theorem rDerive_any (c s p : Int) (q : Sl) (w : World) (hs : s ≤ 9223372036854775807) (hp : p ≤ 9223372036854775807) (hq : q.R w) :
    Calls Try.prog 44 #[fldv c s p, q.v] w (RetL w (derRes c s p q.xs)) := by
  obtain ⟨A, n, ca, xs⟩ := q
  obtain ⟨i0, hi, hz0, hz1, hz2⟩ := info_parts intInfo
  have hbx : Below w.heap.size w (w.alloc (fldB c s p)) := (Below.refl _ _).alloc (Nat.le_refl _) _
  have HQ := Lib.hid (hq.below hbx)
  have CB : Hid (CellsAt (w.alloc (fldB c s p)) w.heap.size (fldC c s p)) := CellsAt.new _ _ _ _ rfl
  show Calls Try.prog 44 #[fldv c s p, .slice A n ca] w (RetL w (derRes c s p xs))
  cases hV : pvB c s p xs with
  | false =>
    have HV := Lib.hid hV
    have HF : Hid (derRes c s p xs = ([], 1)) := by show _ = _; unfold derRes; rw [hV]; rfl
    clear hV hq hbx
    go_enter Try.func44, Try.ntmps44
    go_wp2_with (go_at_call 46; refine (rpValid_n c s p A n ca xs _ hs hp HQ.out).mono ?_; rintro e w1 ⟨rfl, hb1⟩; rw [HV.out]; have HB1 := Lib.hid hb1; clear hb1)
    go_ret2
    exact RetL.mk HF.out (Ints.nil_ _) (bw1 HB1.out)
  | true =>
    have HV := Lib.hid hV
    obtain ⟨C, S, P, a, rfl, rfl, rfl, rfl, hv, hla, hta, hna⟩ := pvB_nat hV
    have hnn : n = a.length := hq.hn.trans (zl_length a)
    have hn7 : n ≤ 4097 := by omega
    have HF : Hid (derRes C S P (zl a) = (zl (trimL (rgL (fun i => fmulN S P ((i + 1) % C) (a.getD (i + 1) 0)) (n - 1))), 0)) := by
      show _ = _; rw [derRes_ok hv hla hta hna, hnn]; rfl
    have HVF := Lib.hid hv
    have HLA := Lib.hid hla
    have HNN := Lib.hid hnn
    have hC := char_le hv
    have hS4 := hv.le
    have z1 : ((C : Int) == 0) = false := by rw [beq_eq_false_iff_ne]; omega
    have z2 : (C : Int) ≠ 0 := by omega
    have z3 : C ≠ 0 := by omega
    have HDV : Hid (∀ x i, x < S → dvN S P x (i % C) = fmulN S P (i % C) x) := fun x i hx => dvN_eq hv hx i
    have HDL : Hid (∀ x k, x < S → dvN S P x k < S) := fun x k hx => dvN_lt hv x k hx
    generalize hg : (fun i => fmulN S P ((i + 1) % C) (a.getD (i + 1) 0)) = f at *
    have HG := Lib.hid hg
    clear hV hv hla hta hna hnn hq hbx hg
    go_enter Try.func44, Try.ntmps44
    go_wp2_with (go_at_call 46; refine (rpValid_n C S P A n ca _ _ hs hp HQ.out).mono ?_; rintro e w2 ⟨rfl, hb1⟩; rw [HV.out]; have HB2 := Lib.hid hb1; clear hb1)
    go_loopw [6, 7] (fun ov iv wr => ∃ k I : Nat, k ≤ n - 1 ∧ I = k + 1 ∧ iv = .int .i64 I ∧ Hid (OwnL w2 wr ov (rgL f k))) (fun _ iv _ => n - (intOf iv).toNat)
    case atStart => exact ⟨0, 1, Nat.zero_le _, rfl, rfl, OwnL.start _⟩
    case round =>
      obtain ⟨k, I, hk, hI, rfl, hO⟩ := hrel
      by_cases hlt : I < n
      · obtain ⟨ad, rfl, hadw, hca⟩ := (HQ.out.below HB2.out).rd (by rw [zl_length, ← HNN.out]; omega)
        have HX1 : Hid (a.getD I 0 < S) := HLA.out I
        have HST := Lib.hid (rgL_succ f k)
        have HFK : Hid (f k = dvN S P (a.getD I 0) (I % C)) := by show _ = _; rw [HDV.out _ _ HX1.out, ← HG.out, hI]
        have e1 : (I : Int).tmod (C : Int) = ((I % C : Nat) : Int) := (Int.ofNat_tmod _ _).symm
        have hmm : I % C < C := Nat.mod_lt _ (by omega)
        have hk7 : I ≤ 4097 := by omega
        have HI := Lib.hid hI
        clear hI
        generalize hy : a.getD I 0 = y at *
        generalize I % C = mm at *
        have CF : Hid (∀ W, Abv wr W → (W.cell? ⟨w.heap.size, 0, none⟩ = some (.int .i64 C) ∧ W.cell? ⟨w.heap.size, 1, none⟩ = some (.int .i64 S) ∧ W.cell? ⟨w.heap.size, 2, none⟩ = some (.int .i64 P)) ∧ W.cell? (ad.add I) = some (.int .i64 (y : Int))) := by
          show ∀ W, _
          intro W hW
          have hb0 := bwStep hO.out.B hW
          refine ⟨fldC_cells ((CB.out.below HB2.out).below hb0), ?_⟩
          rw [hb0.cell (by rw [block_of_add]; exact hadw), hca I (by rw [zl_length, ← HNN.out]; exact hlt), zl_getD, hy]
        clear hca hy
        go_wp2
        obtain ⟨wo, rfl⟩ : ∃ wo : World, wo = wr := ⟨_, rfl⟩
        go_loopw [8, 9] (fun sv jv wr => ∃ j : Nat, j ≤ mm ∧ jv = .int .i64 j ∧ sv = .int .i64 ((dvN S P y j : Nat) : Int) ∧ Hid (Abv wo wr)) (fun _ jv _ => mm - (intOf jv).toNat)
        case atStart => exact ⟨0, Nat.zero_le _, rfl, rfl, Below.refl _ _⟩
        case round =>
          obtain ⟨j, hj, rfl, rfl, hA⟩ := hrel
          obtain ⟨⟨f0, f1, f2⟩, -⟩ := CF.out wr hA.out
          by_cases hlt2 : j < mm
          · have HDJ : Hid (dvN S P y j < S) := HDL.out y j HX1.out
            have HDS : Hid (dvN S P y (j + 1) = faddN S P (dvN S P y j) y) := rfl
            have CF2 : Hid (∀ W, Abv wr W → (W.cell? ⟨w.heap.size, 0, none⟩ = some (.int .i64 C) ∧ W.cell? ⟨w.heap.size, 1, none⟩ = some (.int .i64 S) ∧ W.cell? ⟨w.heap.size, 2, none⟩ = some (.int .i64 P)) ∧ W.cell? (ad.add I) = some (.int .i64 (y : Int))) := fun W hW => CF.out W (bwStep hA.out hW)
            generalize dvN S P y j = dj at *
            go_wp2
            refine wp_region_S (S := Abv wr) 7 (by kernel_rfl) (by kernel_rfl) (bwDrew (Below.refl _ _)) ?_
            simp only [List.take_succ_cons, List.take_zero, List.drop_succ_cons, List.drop_zero]
            repeat
              refine' wpHS_val rfl (fun W hW => ?_) ?_
              rotate_left
              · have hcf := CF2.out W hW; go_simp; rfl
              simp only [Act.put, List.setIfInBounds_toArray, List.set_cons_zero, List.set_cons_succ]
            refine' wpHS_call rfl (fun W => ?_) (fun W hW => ?_) ?_
            rotate_left 3
            · go_simp; exact ⟨rfl, rfl⟩
            · exact (rfplus_any C S P dj y W HVF.out HDJ.out HX1.out).mono (fun e W1 h => ⟨h.1, bwStep hW h.2⟩)
            simp only [Act.put, List.setIfInBounds_toArray, List.set_cons_zero, List.set_cons_succ]
            refine wpHS_nil ?_
            intro w4 hb1
            have HB4 := Lib.hid hb1
            clear hb1
            go_wp2
            exact ⟨⟨j + 1, by omega, by go_num, by rw [HDS.out], bwStep hA.out HB4.out⟩, by simp [intOf]; omega⟩
          · obtain rfl : j = mm := by omega
            rw [← HFK.out]
            go_wp2_with (at_builtin; refine wpList_append_read rfl _ _ _ rfl w2.heap.size 3 i0 _ Try.underlying24 hi hz0 hz1 hz2 rfl _ (rgL f k).length (zl (rgL f k)) rfl ((ownsRow_below hO.out.O hA.out).alloc _) (some ⟨wr.heap.size, 0, none⟩) 1 1 [((f k : Nat) : Int)] rfl rfl (RD.one _ _ _ _ rfl) (by rw [rgL_length]; omega) (by have := (bwStep hO.out.B hA.out).size; simp; omega) ?_; intro v5 w5 hown hg hat; have HP := Lib.hid (hO.out.push hA.out hown hg); clear hown hg hat)
            exact ⟨⟨k + 1, I + 1, by have := HI.out; omega, by rw [HI.out], by go_num, by rw [HST.out]; exact HP.out⟩, by simp [intOf]; omega⟩
      · have hkn : k = n - 1 := by omega
        rw [hkn] at hO
        clear hkn hI hk
        obtain ⟨A2, n2, c2, rfl, hn2, hnc2, -, hrd2⟩ := hO.out.ints.n
        have hn2k : n2 ≤ 4097 := by rw [hn2, rgL_length]; omega
        have HN2 := Lib.hid hn2
        have HRD2 := Lib.hid hrd2
        clear hn2 hrd2
        go_wp2_with (go_at_call 47; refine (rTrim_n (rgL f (n - 1)) n2 HN2.out A2 c2 _ (by omega) hnc2 HRD2.out).mono ?_; rintro e w7 ⟨v7, rfl, hI7, hb7⟩; have HI7 := Lib.hid hI7; have HB7 := Lib.hid hb7; clear hI7 hb7)
        go_ret2
        exact RetL.mk HF.out HI7.out (bwStep (bwStep (bw1 HB2.out) hO.out.B) HB7.out)
end Go.Proofs.Ythpcneeidhmdkaa
