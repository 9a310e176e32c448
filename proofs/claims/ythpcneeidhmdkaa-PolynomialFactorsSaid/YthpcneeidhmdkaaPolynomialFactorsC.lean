/- For every input, the law PolynomialFactors of layer 5 (polynomial) answers true and leaves its arguments as they were. No condition. -/
import Derived.Test.YthpcneeidhmdkaaM22
import Derived.Test.YthpcneeidhmdkaaFacts
namespace Go.Proofs.Ythpcneeidhmdkaa.polynomialFactors
open Go.RowKit
set_option linter.unusedVariables false
set_option linter.unusedSimpArgs false
theorem rootsRes_ok {C S P : Nat} (hv : VF C S P) {a : List Nat} (ha : LtAll S a) (ta : Trimmed a) (na : a.length ≤ 4097) (hne : a ≠ []) : rootsRes C S P (zl a) = (zl (rootsL S P a S), 0) := by
  unfold rootsRes
  rw [show pvB C S P (zl a) = true from by unfold pvB; rw [vld_of hv, polB_zl ha na ta]; rfl, if_pos rfl, if_neg (fun e => hne (zl_nil e)), nl_zl]; rfl
theorem fromRes_ok {C S P : Nat} (hv : VF C S P) {a : List Nat} (ha : LtAll S a) (na : a.length ≤ 4096) : fromRes C S P (zl a) = (zl (fromL S P a a.length), 0) := by
  unfold fromRes
  rw [vld_of hv, inB_zl ha, if_pos (show (true && true) = true from rfl), if_neg (by rw [zl_length]; omega), nl_zl, zl_length]; rfl
theorem fromRes_no {C S P : Nat} (hv : VF C S P) {ys : List Int} (h : inB S ys = false) : fromRes C S P ys = ([], 1) := by
  unfold fromRes
  rw [vld_of hv, h]; rfl
/-- one factor: the call's row -/
theorem one_R (w : World) (x : Int) : (⟨some ⟨w.heap.size, 0, none⟩, 1, 1, [x]⟩ : Sl).R (w.alloc (.cells #[.int .i64 x] 3)) := ⟨rfl, by simp only; omega, RD.one w x 3 _ rfl, Nat.le_refl _, by simp only; unfold maxLen; omega⟩
set_option maxRecDepth 100000 in
set_option maxHeartbeats 8000000 in
theorem law_walk (c s p : Int) (q r : Sl) (w : World) (bc : I64 c) (bs : I64 s) (bp : I64 p) (hq : q.R w) (hr : r.R w) :
    Calls Try.prog 9 #[fldv c s p, q.v, r.v] w fun e w' => e = .returned (.bool true) ∧ Below w.heap.size w w' := by
  obtain ⟨A, n, ca, xs⟩ := q
  obtain ⟨B, m, cb, ys⟩ := r
  have hp := bp.2
  have hs := bs.2
  have hbx : Below w.heap.size w (w.alloc (fldB c s p)) := (Below.refl _ _).alloc (Nat.le_refl _) _
  have HQ := Lib.hid (hq.below hbx)
  have HR := Lib.hid (hr.below hbx)
  have hnm : n ≤ 9223372036854775807 := hq.hm
  have hmm : m ≤ 9223372036854775807 := hr.hm
  have HNX : Hid (n = xs.length) := hq.hn
  have HMX : Hid (m = ys.length) := hr.hn
  show Calls Try.prog 9 #[fldv c s p, .slice A n ca, .slice B m cb] w fun e w' => e = .returned (.bool true) ∧ Below w.heap.size w w'
  have CB : Hid (CellsAt (w.alloc (fldB c s p)) w.heap.size (fldC c s p)) := CellsAt.new _ _ _ _ rfl
  clear hq hr hbx bc bs bp
  cases hV : lvB c s p 20 xs with
  | false =>
    have HV := Lib.hid hV
    clear hV
    go_enter Try.func9, Try.ntmps9
    go_wp2_with fail
    refine (lvalid1 c s p 20 20 rfl A n ca xs (w.heap.size + 1) _ 24 (by omega) hp (by simp) HQ.out).mono ?_
    rintro e w1 ⟨rfl, hb1⟩
    rw [HV.out]
    go_wp2_with fail
    refine (examples_any _).mono ?_
    rintro e w2 ⟨rfl, hb2⟩
    go_wp2_with fail
    go_ret
    exact ⟨rfl, bw1 (bwStep (bwStep (bwA _ _) hb1) hb2)⟩
  | true =>
    have HV := Lib.hid hV
    by_cases hbig : 256 < s
    · have z1 : decide (256 < s) = true := by simp; omega
      clear hV
      go_enter Try.func9, Try.ntmps9
      go_wp2_with fail
      refine (lvalid1 c s p 20 20 rfl A n ca xs (w.heap.size + 1) _ 24 (by omega) hp (by simp) HQ.out).mono ?_
      rintro e w1 ⟨rfl, hb1⟩
      rw [HV.out]
      have HB1 : Hid (Abv (w.alloc (fldB c s p)) w1) := bwStep (bwA _ _) hb1
      obtain ⟨f0, f1, f2⟩ := fldC_cells (CB.out.below HB1.out)
      clear hb1
      go_wp2_with fail
      refine (examples_any _).mono ?_
      rintro e w2 ⟨rfl, hb2⟩
      go_wp2_with fail
      go_ret
      exact ⟨rfl, bw1 (bwStep HB1.out hb2)⟩
    · have z1 : decide (256 < s) = false := by simp; omega
      by_cases hlong : 20 < m
      · have z2 : decide ((20 : Int) < (m : Int)) = true := by simp; omega
        clear hV
        go_enter Try.func9, Try.ntmps9
        go_wp2_with fail
        refine (lvalid1 c s p 20 20 rfl A n ca xs (w.heap.size + 1) _ 24 (by omega) hp (by simp) HQ.out).mono ?_
        rintro e w1 ⟨rfl, hb1⟩
        rw [HV.out]
        have HB1 : Hid (Abv (w.alloc (fldB c s p)) w1) := bwStep (bwA _ _) hb1
        obtain ⟨f0, f1, f2⟩ := fldC_cells (CB.out.below HB1.out)
        clear hb1
        go_wp2_with fail
        refine (examples_any _).mono ?_
        rintro e w2 ⟨rfl, hb2⟩
        go_wp2_with fail
        go_ret
        exact ⟨rfl, bw1 (bwStep HB1.out hb2)⟩
      · have z2 : decide ((20 : Int) < (m : Int)) = false := by simp; omega
        obtain ⟨C, S, P, a, rfl, rfl, rfl, rfl, hv, hla, hta, hna⟩ := lvB_nat hV
        have HVF := Lib.hid hv
        have HLA := Lib.hid hla
        have HTA := Lib.hid hta
        have HNA : Hid (a.length ≤ 4097) := by show _ ≤ _; omega
        have HNN : Hid (n = a.length) := HNX.out.trans (zl_length a)
        have hm20 : m ≤ 20 := by omega
        have hS2 := hv.two_le
        have hS3 : S ≤ 256 := by omega
        have hn20 : n ≤ 20 := by have := HNN.out; omega
        by_cases hn0 : n = 0
        · subst hn0
          have HRR : Hid (rootsRes C S P (zl a) = ([], 12)) := by
            show _ = _
            have h0 : a = [] := List.eq_nil_of_length_eq_zero HNN.out.symm
            have hpv : pvB C S P (zl a) = true := by unfold lvB at hV; rw [Bool.and_eq_true] at hV; exact hV.2
            unfold rootsRes; rw [if_pos hpv, h0]; rfl
          clear hV hv hla hta hna hnm hmm hbig hlong
          go_enter Try.func9, Try.ntmps9
          go_wp2_with fail
          refine (lvalid1 C S P 20 20 rfl A 0 ca (zl a) (w.heap.size + 1) _ 24 (by omega) hp (by simp) HQ.out).mono ?_
          rintro e w1 ⟨rfl, hb1⟩
          rw [HV.out]
          have HB1 : Hid (Abv (w.alloc (fldB C S P)) w1) := bwStep (bwA _ _) hb1
          obtain ⟨f0, f1, f2⟩ := fldC_cells (CB.out.below HB1.out)
          clear hb1
          go_wp2_with fail
          refine (pRoots_any C S P ⟨A, 0, ca, zl a⟩ _ hp (HQ.out.below HB1.out)).mono ?_
          rintro e w2 ⟨v2, rfl, hI2, hb2⟩
          have hI2' : Ints w2 v2 [] := by
            have e1 : (rootsRes C S P (⟨A, 0, ca, zl a⟩ : Sl).xs).1 = [] := by rw [HRR.out]
            rw [← e1]; exact hI2
          obtain ⟨E, k, ce, rfl, hE⟩ := hI2'.slR
          have hk0 : k = 0 := hE.hn
          subst hk0
          rw [show (rootsRes C S P (⟨A, 0, ca, zl a⟩ : Sl).xs).2 = 12 from by rw [HRR.out]]
          have HB2 : Hid (Abv (w.alloc (fldB C S P)) w2) := bwStep HB1.out hb2
          clear hI2 hI2' hE hb2 f0 f1 f2
          go_wp2_with fail
          refine (examples_any _).mono ?_
          rintro e w3 ⟨rfl, hb3⟩
          go_wp2_with fail
          go_ret
          exact ⟨rfl, bw1 (bwStep HB2.out hb3)⟩
        · have hne : a ≠ [] := fun e => hn0 (by rw [HNN.out, e]; rfl)
          have z3 : ((n : Int) == 0) = false := by rw [beq_eq_false_iff_ne]; omega
          have HRR : Hid (rootsRes C S P (zl a) = (zl (rootsL S P a S), 0)) := rootsRes_ok hv hla hta (by omega) hne
          have HFEW : Hid ((rootsL S P a S).length < n) := by show _ < _; rw [HNN.out]; exact roots_few hv hla hta hne
          have HMEM : Hid (∀ x : Nat, x < S → (((x : Int) ∈ zl (rootsL S P a S)) ↔ hornN S P x a = 0)) := fun x hx => mem_roots hx
          have HRST : Hid (∀ x : Nat, x < S → (divRest S P a (fromL S P [x] 1) = [] ↔ hornN S P x a = 0)) := fun x hx => rest_root hv hla hta hx
          have HDIV : Hid (∀ x : Nat, x < S → (divRes C S P (zl a) (zl (fromL S P [x] 1))).2.1 = zl (divRest S P a (fromL S P [x] 1))) := fun x hx => by
            rw [divRes_ok hv hla hta (by omega) (fromL_lt hv (by intro i; cases i with
              | zero => exact hx
              | succ i => show ([x] : List Nat).getD (i + 1) 0 < S; simp [List.getD]; omega) 1) (fromL_trimmed [x] 1) (by rw [fromL_length]; omega) (fromL_ne S P [x] 1)]
          have HFR1 : Hid (∀ x : Nat, x < S → fromRes C S P [(x : Int)] = (zl (fromL S P [x] 1), 0)) := fun x hx =>
            fromRes_ok hv (a := [x]) (by intro i; cases i with
              | zero => exact hx
              | succ i => show ([x] : List Nat).getD (i + 1) 0 < S; simp [List.getD]; omega) (by simp)
          clear hV hv hla hta hna hnm hmm hbig hlong hn0 hne
          go_enter Try.func9, Try.ntmps9
          go_wp2_with fail
          refine (lvalid1 C S P 20 20 rfl A n ca (zl a) (w.heap.size + 1) _ 24 (by omega) hp (by simp) HQ.out).mono ?_
          rintro e w1 ⟨rfl, hb1⟩
          rw [HV.out]
          have HB1 : Hid (Abv (w.alloc (fldB C S P)) w1) := bwStep (bwA _ _) hb1
          obtain ⟨f0, f1, f2⟩ := fldC_cells (CB.out.below HB1.out)
          clear hb1
          go_wp2_with fail
          refine (pRoots_any C S P ⟨A, n, ca, zl a⟩ _ hp (HQ.out.below HB1.out)).mono ?_
          rintro e w2 ⟨v2, rfl, hI2, hb2⟩
          have hI2' : Ints w2 v2 (zl (rootsL S P a S)) := by
            have e1 : (rootsRes C S P (⟨A, n, ca, zl a⟩ : Sl).xs).1 = zl (rootsL S P a S) := by rw [HRR.out]
            rw [← e1]; exact hI2
          obtain ⟨E, k, ce, rfl, hE⟩ := hI2'.slR
          rw [show (rootsRes C S P (⟨A, n, ca, zl a⟩ : Sl).xs).2 = 0 from by rw [HRR.out]]
          have HB2 : Hid (Abv (w.alloc (fldB C S P)) w2) := bwStep HB1.out hb2
          have HE := Lib.hid hE
          have hkn : k < n := by
            have h1 : k = (zl (rootsL S P a S)).length := hE.hn
            rw [h1, zl_length]; exact HFEW.out
          have hnk : decide (n ≤ k) = false := by simp; omega
          have HQ2 : Hid ((⟨A, n, ca, zl a⟩ : Sl).R w2) := HQ.out.below HB2.out
          have HR2 : Hid ((⟨B, m, cb, ys⟩ : Sl).R w2) := HR.out.below HB2.out
          have HX2 : Hid (CellsAt w2 w.heap.size (fldC C S P)) := CB.out.below HB2.out
          have HBF : Hid (Below w.heap.size w w2) := bw1 HB2.out
          clear hI2 hI2' hE hb2 f0 f1 f2 HQ HR CB HB1 HB2 HRR HFEW
          obtain ⟨f0, f1, f2⟩ := fldC_cells HX2.out
          generalize hL : rootsL S P a S = L1 at *
          clear hL
          go_wp2_with fail
          clear f0 f1 f2
          go_loopw [63] (fun iv wr => ∃ j : Nat, j ≤ S ∧ iv = .int .i64 j ∧ Hid (Abv w2 wr)) (fun iv _ => S - (intOf iv).toNat)
          case atStart => exact ⟨0, Nat.zero_le _, rfl, Below.refl _ _⟩
          case round =>
            obtain ⟨j, hj, rfl, hA⟩ := hrel
            obtain ⟨f0, f1, f2⟩ := fldC_cells (HX2.out.below hA.out)
            by_cases hlt : j < S
            · go_wp2_with fail
              refine (pFromRoots_any C S P ⟨some ⟨wr.heap.size, 0, none⟩, 1, 1, [(j : Int)]⟩ _ hp (one_R wr j)).mono ?_
              rintro e w3 ⟨v3, rfl, hI3, hb3⟩
              have hI3' : Ints w3 v3 (zl (fromL S P [j] 1)) := by
                have e1 : (fromRes C S P [(j : Int)]).1 = zl (fromL S P [j] 1) := by rw [HFR1.out j hlt]
                rw [← e1]; exact hI3
              obtain ⟨E3, k3, c3, rfl, hE3⟩ := hI3'.slR
              rw [show (fromRes C S P (⟨some ⟨wr.heap.size, 0, none⟩, 1, 1, [(j : Int)]⟩ : Sl).xs).2 = 0 from by show (fromRes C S P [(j : Int)]).2 = 0; rw [HFR1.out j hlt]]
              have hk3 : k3 = 2 := by
                have h1 : k3 = (zl (fromL S P [j] 1)).length := hE3.hn
                rw [h1, zl_length, fromL_length]
              subst hk3
              have HB3 : Hid (Abv w2 w3) := bwStep hA.out (bwStep (bwA _ _) hb3)
              have HE3 := Lib.hid hE3
              clear hI3 hI3' hE3 hb3 f0 f1 f2
              have HM := HMEM.out j hlt
              have HRS := HRST.out j hlt
              have HDV : Hid ((divRes C S P (zl a) (zl (fromL S P [j] 1))).2.1 = zl (divRest S P a (fromL S P [j] 1))) := HDIV.out j hlt
              have CF : Hid (∀ W, Abv w3 W → W.cell? ⟨w.heap.size, 0, none⟩ = some (.int .i64 C) ∧ W.cell? ⟨w.heap.size, 1, none⟩ = some (.int .i64 S) ∧ W.cell? ⟨w.heap.size, 2, none⟩ = some (.int .i64 P)) := fun W hW => fldC_cells (HX2.out.below (bwStep HB3.out hW))
              have HD0 : Hid (Abv w3 w3.drew) := bwDrew (Below.refl _ _)
              generalize fromL S P [j] 1 = F1 at *
              by_cases hroot : hornN S P j a = 0
              · have HRE : Hid (divRest S P a F1 = []) := HRS.2 hroot
                have HME : Hid (decide ((j : Int) ∈ zl L1) = true) := by show _ = _; rw [decide_eq_true_eq]; exact HM.2 hroot
                clear HM HRS hroot
                go_wp2_with fail
                refine wp_region_W (S := Abv w3) [(false, 0), (false, 1), (false, 2), (false, 3), (false, 4), (false, 5), (false, 6), (false, 7), (false, 8), (false, 9), (false, 11), (false, 12), (false, 13), (true, 10), (true, 14), (false, 15), (false, 16), (false, 17), (false, 18)] (by kernel_rfl) (by kernel_rfl) HD0.out ?_
                simp only [attachW, List.getElem?_cons_zero, List.getElem?_cons_succ]
                repeat
                  first
                  | refine' wpHX_val rfl (fun W hW => ?_) ?_
                  | refine' wpHX_gval rfl (fun W hW => ?_) ?_
                  rotate_left
                  · have hcf := CF.out W hW; go_simp; rfl
                  simp only [Act.put, List.setIfInBounds_toArray, List.set_cons_zero, List.set_cons_succ]
                refine' wpHX_acall rfl (fun W => ?_) ?_
                rotate_left 2
                · go_simp; exact ⟨rfl, rfl⟩
                refine (lhas_any E k ce (zl L1) j _ (HE.out.below (bwStep HB3.out HD0.out))).mono ?_
                rintro e w4 ⟨rfl, hb4⟩
                rw [HME.out]
                have HB4 : Hid (Abv w3 w4) := bwStep HD0.out hb4
                clear hb4
                refine ⟨_, rfl, HB4.out, ?_⟩
                simp only [Act.put, List.setIfInBounds_toArray, List.set_cons_zero, List.set_cons_succ]
                refine' wpHX_acall rfl (fun W => ?_) ?_
                rotate_left 2
                · go_simp; exact ⟨rfl, rfl⟩
                refine (lrest_any C S P ⟨A, n, ca, zl a⟩ ⟨E3, 2, c3, zl F1⟩ _ hp (HQ2.out.below (bwStep HB3.out HB4.out)) (HE3.out.below HB4.out)).mono ?_
                rintro e w5 ⟨v5, rfl, hI5, hb5⟩
                have hI5' : Ints w5 v5 [] := by
                  have e1 : (divRes C S P (zl a) (zl F1)).2.1 = [] := by rw [HDV.out, HRE.out]; rfl
                  rw [← e1]; exact hI5
                obtain ⟨E5, k5, c5, rfl, hE5⟩ := hI5'.slR
                have hk5 : k5 = 0 := hE5.hn
                subst hk5
                have HB5 : Hid (Abv w3 w5) := bwStep HB4.out hb5
                clear hI5 hI5' hE5 hb5
                refine ⟨_, rfl, HB5.out, ?_⟩
                simp only [Act.put, List.setIfInBounds_toArray, List.set_cons_zero, List.set_cons_succ]
                repeat
                  first
                  | refine' wpHX_val rfl (fun W hW => ?_) ?_
                  | refine' wpHX_gval rfl (fun W hW => ?_) ?_
                  rotate_left
                  · have hcf := CF.out W hW; go_simp; rfl
                  simp only [Act.put, List.setIfInBounds_toArray, List.set_cons_zero, List.set_cons_succ]
                refine wpHX_nil ?_
                go_wp2
                exact ⟨⟨j + 1, by omega, by go_num, bwStep HB3.out HB5.out⟩, by simp [intOf]; omega⟩
              · have HRE : Hid (divRest S P a F1 ≠ []) := fun e => hroot (HRS.1 e)
                have HME : Hid (decide ((j : Int) ∈ zl L1) = false) := by show _ = _; rw [decide_eq_false_iff_not]; exact fun e => hroot (HM.1 e)
                clear HM HRS hroot
                go_wp2_with fail
                refine wp_region_W (S := Abv w3) [(false, 0), (false, 1), (false, 2), (false, 3), (false, 4), (false, 5), (false, 6), (false, 7), (false, 8), (false, 9), (false, 11), (false, 12), (false, 13), (true, 10), (true, 14), (false, 15), (false, 16), (false, 17), (false, 18)] (by kernel_rfl) (by kernel_rfl) HD0.out ?_
                simp only [attachW, List.getElem?_cons_zero, List.getElem?_cons_succ]
                repeat
                  first
                  | refine' wpHX_val rfl (fun W hW => ?_) ?_
                  | refine' wpHX_gval rfl (fun W hW => ?_) ?_
                  rotate_left
                  · have hcf := CF.out W hW; go_simp; rfl
                  simp only [Act.put, List.setIfInBounds_toArray, List.set_cons_zero, List.set_cons_succ]
                refine' wpHX_acall rfl (fun W => ?_) ?_
                rotate_left 2
                · go_simp; exact ⟨rfl, rfl⟩
                refine (lhas_any E k ce (zl L1) j _ (HE.out.below (bwStep HB3.out HD0.out))).mono ?_
                rintro e w4 ⟨rfl, hb4⟩
                rw [HME.out]
                have HB4 : Hid (Abv w3 w4) := bwStep HD0.out hb4
                clear hb4
                refine ⟨_, rfl, HB4.out, ?_⟩
                simp only [Act.put, List.setIfInBounds_toArray, List.set_cons_zero, List.set_cons_succ]
                refine' wpHX_acall rfl (fun W => ?_) ?_
                rotate_left 2
                · go_simp; exact ⟨rfl, rfl⟩
                refine (lrest_any C S P ⟨A, n, ca, zl a⟩ ⟨E3, 2, c3, zl F1⟩ _ hp (HQ2.out.below (bwStep HB3.out HB4.out)) (HE3.out.below HB4.out)).mono ?_
                rintro e w5 ⟨v5, rfl, hI5, hb5⟩
                have hI5' : Ints w5 v5 (zl (divRest S P a F1)) := by
                  have e1 : (divRes C S P (zl a) (zl F1)).2.1 = zl (divRest S P a F1) := HDV.out
                  rw [← e1]; exact hI5
                obtain ⟨E5, k5, c5, rfl, hE5⟩ := hI5'.slR
                have z5 : ((k5 : Int) == 0) = false := by
                  have h1 : k5 = (zl (divRest S P a F1)).length := hE5.hn
                  have h2 := List.length_pos_iff.2 HRE.out
                  rw [zl_length] at h1
                  rw [beq_eq_false_iff_ne]; omega
                have HB5 : Hid (Abv w3 w5) := bwStep HB4.out hb5
                clear hI5 hI5' hE5 hb5
                refine ⟨_, rfl, HB5.out, ?_⟩
                simp only [Act.put, List.setIfInBounds_toArray, List.set_cons_zero, List.set_cons_succ]
                repeat
                  first
                  | refine' wpHX_val rfl (fun W hW => ?_) ?_
                  | refine' wpHX_gval rfl (fun W hW => ?_) ?_
                  rotate_left
                  · have hcf := CF.out W hW; go_simp; rfl
                  simp only [Act.put, List.setIfInBounds_toArray, List.set_cons_zero, List.set_cons_succ]
                refine wpHX_nil ?_
                go_wp2
                exact ⟨⟨j + 1, by omega, by go_num, bwStep HB3.out HB5.out⟩, by simp [intOf]; omega⟩
            · obtain rfl : j = S := by omega
              have HB3 := Lib.hid hA.out
              clear hA HMEM HRST HDIV HFR1
              cases hin : inB j ys with
              | false =>
                have HFN : Hid (fromRes C j P ys = ([], 1)) := fromRes_no HVF.out hin
                clear hin
                go_wp2_with fail
                refine (pFromRoots_any C j P ⟨B, m, cb, ys⟩ _ hp (HR2.out.below HB3.out)).mono ?_
                rintro e w3 ⟨v3, rfl, hI3, hb3⟩
                rw [show (fromRes C j P (⟨B, m, cb, ys⟩ : Sl).xs).2 = 1 from by show (fromRes C j P ys).2 = 1; rw [HFN.out]]
                have HB4 := Lib.hid (bwStep HB3.out hb3)
                clear hI3 hb3
                go_wp2_with fail
                refine (examples_any _).mono ?_
                rintro e w4 ⟨rfl, hb4⟩
                go_wp2_with fail
                go_ret
                exact ⟨rfl, bwStep HBF.out (bwStep HB4.out hb4)⟩
              | true =>
                obtain ⟨b, rfl, hlb⟩ := inB_nat (by have := HVF.out.two_le; omega) hin
                have HMM : Hid (m = b.length) := HMX.out.trans (zl_length b)
                have HFN : Hid (fromRes C j P (zl b) = (zl (fromL j P b m), 0)) := by
                  show _ = _
                  rw [HMM.out]; exact fromRes_ok HVF.out hlb (by have := HMM.out; omega)
                have HLF : Hid (LtAll j (fromL j P b m)) := fromL_lt HVF.out hlb m
                have HRR : Hid (rootsRes C j P (zl (fromL j P b m)) = (zl (rootsL j P (fromL j P b m) j), 0)) :=
                  rootsRes_ok HVF.out HLF.out (fromL_trimmed b m) (by rw [fromL_length]; omega) (fromL_ne j P b m)
                have HEQ : Hid (∀ x : Nat, x < j → decide ((x : Int) ∈ zl (rootsL j P (fromL j P b m) j)) = decide ((x : Int) ∈ zl b)) := by
                  show ∀ x : Nat, _
                  intro x hx
                  have h1 : ((x : Int) ∈ zl (rootsL j P (fromL j P b m) j)) ↔ ((x : Int) ∈ zl b) := by
                    rw [mem_roots hx, root_from HVF.out hlb hx, mem_zl_getD, HMM.out]
                  by_cases h2 : (x : Int) ∈ zl b
                  · rw [decide_eq_true (h1.2 h2), decide_eq_true h2]
                  · rw [decide_eq_false (fun e => h2 (h1.1 e)), decide_eq_false h2]
                have HTOP : Hid ((fromL j P b m).getD m 0 = 1) := fromL_last b m
                have HLEN : Hid ((fromL j P b m).length = m + 1) := fromL_length j P b m
                clear hin hlb
                go_wp2_with fail
                refine (pFromRoots_any C j P ⟨B, m, cb, zl b⟩ _ hp (HR2.out.below HB3.out)).mono ?_
                rintro e w3 ⟨v3, rfl, hI3, hb3⟩
                have hI3' : Ints w3 v3 (zl (fromL j P b m)) := by
                  have e1 : (fromRes C j P (zl b)).1 = zl (fromL j P b m) := by rw [HFN.out]
                  rw [← e1]; exact hI3
                obtain ⟨E3, k3, c3, rfl, hE3⟩ := hI3'.slR
                rw [show (fromRes C j P (⟨B, m, cb, zl b⟩ : Sl).xs).2 = 0 from by show (fromRes C j P (zl b)).2 = 0; rw [HFN.out]]
                have hk3 : k3 = m + 1 := by
                  have h1 : k3 = (zl (fromL j P b m)).length := hE3.hn
                  rw [h1, zl_length, HLEN.out]
                have HK3 := Lib.hid hk3
                have hk31 : k3 ≤ m + 1 := by omega
                have hk32 : m + 1 ≤ k3 := by omega
                clear hk3
                have HB4 : Hid (Abv w2 w3) := bwStep HB3.out hb3
                have HE3 := Lib.hid hE3
                clear hI3 hI3' hE3 hb3 f0 f1 f2
                obtain ⟨f0, f1, f2⟩ := fldC_cells (HX2.out.below HB4.out)
                go_wp2_with fail
                refine (pRoots_any C j P ⟨E3, k3, c3, zl (fromL j P b m)⟩ _ hp HE3.out).mono ?_
                rintro e w4 ⟨v4, rfl, hI4, hb4⟩
                have hI4' : Ints w4 v4 (zl (rootsL j P (fromL j P b m) j)) := by
                  have e1 : (rootsRes C j P (zl (fromL j P b m))).1 = zl (rootsL j P (fromL j P b m) j) := by rw [HRR.out]
                  rw [← e1]; exact hI4
                obtain ⟨E4, k4, c4, rfl, hE4⟩ := hI4'.slR
                rw [show (rootsRes C j P (⟨E3, k3, c3, zl (fromL j P b m)⟩ : Sl).xs).2 = 0 from by show (rootsRes C j P (zl (fromL j P b m))).2 = 0; rw [HRR.out]]
                have HE3' := Lib.hid (HE3.out.below hb4)
                have HB5 : Hid (Abv w2 w4) := bwStep HB4.out hb4
                have HE4 := Lib.hid hE4
                have HR5 : Hid ((⟨B, m, cb, zl b⟩ : Sl).R w4) := HR2.out.below HB5.out
                clear hI4 hI4' hE4 hb4 f0 f1 f2 HE3 HB4 HRR HFN
                obtain ⟨f0, f1, f2⟩ := fldC_cells (HX2.out.below HB5.out)
                obtain ⟨ad, rfl, hadw, hca⟩ := HE3'.out.rd (by rw [zl_length, HLEN.out]; omega)
                have hx1 := hca m (by rw [zl_length, HLEN.out]; omega)
                rw [zl_getD, HTOP.out] at hx1
                have z4 : ((k3 : Int) == (m : Int) + 1) = true := by rw [beq_iff_eq]; omega
                have z5 : (m : Int) < (k3 : Int) := by omega
                have z6 : IntKind.i64.wrap ((m : Int) + 1) = (m : Int) + 1 := wr64 _ (by omega) (by omega)
                clear hca hadw
                generalize rootsL j P (fromL j P b m) j = L2 at *
                clear HTOP HLEN HLF
                generalize fromL j P b m = F2 at *
                go_wp2_with fail
                clear f0 f1 f2 hx1 z4 z5 z6
                go_loopw [132] (fun iv wr => ∃ x : Nat, x ≤ j ∧ iv = .int .i64 x ∧ Hid (Abv w4 wr)) (fun iv _ => j - (intOf iv).toNat)
                case atStart => exact ⟨0, Nat.zero_le _, rfl, Below.refl _ _⟩
                case round =>
                  obtain ⟨x, hx, rfl, hG⟩ := hrel
                  by_cases hlt2 : x < j
                  · have hE := HEQ.out x hlt2
                    cases hd : decide ((x : Int) ∈ zl b) with
                    | true =>
                      rw [hd] at hE
                      have HD := Lib.hid hd
                      have HL := Lib.hid hE
                      clear hd hE
                      go_wp2_with fail
                      refine (lhas_any E4 k4 c4 (zl L2) x _ (HE4.out.below hG.out)).mono ?_
                      rintro e w5 ⟨rfl, hb5⟩
                      rw [HL.out]
                      have HB6 := Lib.hid (bwStep hG.out hb5)
                      clear hb5
                      go_wp2_with fail
                      refine (lhas_any B m cb (zl b) x _ (HR5.out.below HB6.out)).mono ?_
                      rintro e w6 ⟨rfl, hb6⟩
                      rw [HD.out]
                      have HB7 := Lib.hid (bwStep HB6.out hb6)
                      clear hb6
                      go_wp2
                      exact ⟨⟨x + 1, by omega, by go_num, HB7.out⟩, by simp [intOf]; omega⟩
                    | false =>
                      rw [hd] at hE
                      have HD := Lib.hid hd
                      have HL := Lib.hid hE
                      clear hd hE
                      go_wp2_with fail
                      refine (lhas_any E4 k4 c4 (zl L2) x _ (HE4.out.below hG.out)).mono ?_
                      rintro e w5 ⟨rfl, hb5⟩
                      rw [HL.out]
                      have HB6 := Lib.hid (bwStep hG.out hb5)
                      clear hb5
                      go_wp2_with fail
                      refine (lhas_any B m cb (zl b) x _ (HR5.out.below HB6.out)).mono ?_
                      rintro e w6 ⟨rfl, hb6⟩
                      rw [HD.out]
                      have HB7 := Lib.hid (bwStep HB6.out hb6)
                      clear hb6
                      go_wp2
                      exact ⟨⟨x + 1, by omega, by go_num, HB7.out⟩, by simp [intOf]; omega⟩
                  · go_wp2_with fail
                    refine (examples_any _).mono ?_
                    rintro e w5 ⟨rfl, hb5⟩
                    go_wp2_with fail
                    go_ret
                    exact ⟨rfl, bwStep HBF.out (bwStep HB5.out (bwStep hG.out hb5))⟩
end Go.Proofs.Ythpcneeidhmdkaa.polynomialFactors
namespace Go.Proofs.Ythpcneeidhmdkaa.polynomialFactors
open Go.ChangeShapes Go.WideShapes Go.ChangeAt Go.RowKit
set_option linter.unusedVariables false
theorem k0 : Rows.polynomialFactorsRow.wf (OpenSpec.ofChange Rows.polynomialFactorsSpec) = true := by kernel_rfl
theorem k3 : Try.f9.params.all (Try.prog.readableRec ·) = true := by kernel_rfl
theorem k4 : namedTie Try.prog Rows.polynomialFactorsRow.named Rows.polynomialFactorsSpec.vars = true := by kernel_rfl
theorem k5 : (Rows.polynomialFactorsRow.stops == []) = true := by kernel_rfl
theorem k7 : (Rows.polynomialFactorsRow.knobs == []) = true := by kernel_rfl
theorem k9 : (Rows.polynomialFactorsRow.inPlace == Try.prog.inPlace 9) = true := by kernel_rfl
theorem k10 : (Rows.polynomialFactorsRow.unfollowed == Try.prog.unfollowed 9) = true := by kernel_rfl
theorem k11 : (Rows.polynomialFactorsRow.recurses == Try.prog.recurses 9) = true := by kernel_rfl
theorem k12 : (Rows.polynomialFactorsRow.named == Try.prog.varsNamed 9) = true := by kernel_rfl
theorem k13 : (Rows.polynomialFactorsRow.maps == (Try.f9.params.toList ++ Rows.polynomialFactorsSpec.plain.varTypes Try.prog).any (Try.prog.mapsRec ·)) = true := by kernel_rfl
theorem k14 : (Rows.polynomialFactorsRow.ifaces == (Try.f9.params.toList ++ Rows.polynomialFactorsSpec.plain.varTypes Try.prog).any (Try.prog.ifacesRec ·)) = true := by kernel_rfl
theorem k15 : (Rows.polynomialFactorsRow.mapsOut == Try.prog.mapsAmong Try.f9.resultTypes.toList) = true := by kernel_rfl
theorem k16 : (Rows.polynomialFactorsRow.loops == (Try.f9.params.toList ++ Rows.polynomialFactorsSpec.plain.varTypes Try.prog).any (Try.prog.loopsFrom ·)) = true := by kernel_rfl
theorem k17 : (Rows.polynomialFactorsRow.wideKeys == (Try.f9.params.toList ++ Rows.polynomialFactorsSpec.plain.varTypes Try.prog ++ Try.f9.resultTypes.toList).any (Try.prog.wideKeysFrom ·)) = true := by kernel_rfl
theorem k18 : Rows.polynomialFactorsSpec.vars.all (Try.prog.varReadable ·) = true := by kernel_rfl
theorem k19 : Try.f9.resultTypes.all (fun t => Try.prog.readableRec t && decide (t < Try.prog.types.size)) = true := by kernel_rfl
theorem k20 : (Rows.polynomialFactorsRow.ifacesOut == Try.f9.resultTypes.toList.any (Try.prog.ifacesRec ·)) = true := by kernel_rfl
theorem k21 : (Rows.polynomialFactorsRow.loopsOut == Try.f9.resultTypes.toList.any (Try.prog.loopsFrom ·)) = true := by kernel_rfl
theorem k22 : (Rows.polynomialFactorsRow.plainKeys == Try.prog.plainKeys) = true := by kernel_rfl
theorem k23 : Rows.polynomialFactorsRow.shortTexts.isNone = true := by kernel_rfl
theorem k26 : (Rows.polynomialFactorsRow.lifted == Try.prog.liftsFinal) = true := by kernel_rfl
theorem k27 : (Try.prog.make == some Rows.polynomialFactorsRow.make) = true := by kernel_rfl
theorem k28 : (Rows.polynomialFactorsRow.kinds == (if Rows.polynomialFactorsRow.domain.isEmpty then [] else Try.f9.params.toList.map fun t => match Try.prog.underlying t with | some (.int k) => some k | _ => none)) = true := by kernel_rfl
theorem k29 : (Rows.polynomialFactorsRow.pinned == Rows.polynomialFactorsRow.pinnedBy) = true := by kernel_rfl
theorem k30 : (Rows.polynomialFactorsRow.veiled == (Try.f9.params.toList ++ Rows.polynomialFactorsSpec.plain.varTypes Try.prog ++ Try.f9.resultTypes.toList).any (Try.prog.veiledRec ·)) = true := by kernel_rfl
theorem k31 : Rows.polynomialFactorsRow.veiledFits Try.prog Try.f9.params.toList (Try.f9.params.toList ++ Rows.polynomialFactorsSpec.plain.varTypes Try.prog ++ Try.f9.resultTypes.toList) = true := by kernel_rfl
theorem closedK : joinedFacts Try.prog 9 Try.f9 Rows.polynomialFactorsSpec Rows.polynomialFactorsRow = true := and_tt (and_tt (and_tt (and_tt (and_tt (and_tt (and_tt (and_tt (and_tt (and_tt (and_tt (and_tt (and_tt (and_tt (and_tt (and_tt (and_tt (and_tt (and_tt (and_tt (and_tt (and_tt (and_tt (and_tt (and_tt (and_tt (and_tt (and_tt (and_tt (and_tt (and_tt k0 fp_laid) fp_mapsRowed) k3) k4) k5) fp_stops) k7) fp_stopKnobs) k9) k10) k11) k12) k13) k14) k15) k16) k17) k18) k19) k20) k21) k22) k23) fp_stopsHeard) fp_mayEnter) k26) k27) k28) k29) k30) k31

theorem ownK : ownKnob Try.prog.godebug = none := by kernel_rfl
theorem laidK : laidOutB Try.prog = true := by kernel_rfl
set_option maxRecDepth 100000 in
theorem lifted (os : Os) (started : os.Started) (H : Type) (enc : TypeId × Value → H) :
    ReturnsInHanded {} Try.checked os 9 .any (Rows.polynomialFactorsSpec.pre6 enc Try.prog Try.f9 Rows.polynomialFactorsRow.domain false) (Rows.polynomialFactorsSpec.post enc Try.prog Try.f9 false true false false) := by
  refine returnsInHanded_of_change (C := Try.checked) ownK started (by kernel_rfl) Try.func9
    (ChangeSpec.witness6 (enc := enc) (C := Try.checked) false ⟨#[], #[.agg #[.int .i64 0, .int .i64 0, .int .i64 0], .slice none 0 0, .slice none 0 0], []⟩ 12 (by kernel_rfl) (by kernel_rfl) (by kernel_rfl) (by kernel_rfl)) ?_
  intro W base args ds gs before hval0 hW hcnd _
  have hval : ∀ (j : Nat) t v, Try.f9.params[j]? = some t → args[j]? = some v → Value.okWide Try.prog W .any base t v := hval0
  have hW' := hW
  obtain ⟨p, q, hA0, hV, rfl, hfz, hnd⟩ := hW
  have hA : DataW.TrodAll enc Try.prog W 0 (fun _ => true) true Try.f9.params.toList args.toList ds p := hA0
  rw [Try.params9] at hA hval
  obtain ⟨v0, vs0, d0, ds0, p0, q0, hargs, rfl, rfl, h0, r0⟩ := trodAll_cons hA
  obtain ⟨v1, vs1, d1, ds1, p1, q1, rfl, rfl, rfl, h1, r1⟩ := trodAll_cons r0
  obtain ⟨v2, vs2, d2, ds2, p2, q2, rfl, rfl, rfl, h2, r2⟩ := trodAll_cons r1
  obtain ⟨rfl, rfl, rfl⟩ := trodAll_nil r2
  obtain rfl : args = #[v0, v1, v2] := by cases args; simp_all
  obtain ⟨rfl, rfl⟩ := trodVars_none hV
  have hrd : ∀ t ∈ Try.f9.params.toList, Try.prog.readableRec t = true ∧ t < Try.prog.types.size := by
    rw [Try.params9]
    intro t ht
    simp only [List.mem_cons, List.not_mem_nil, or_false] at ht
    rcases ht with rfl | rfl | rfl <;> exact ⟨by kernel_rfl, of_decide_eq_true (by kernel_rfl)⟩
  obtain ⟨c, s, p, rfl, bc, bs, bp⟩ := open_fld (hval 0 23 v0 rfl rfl) h0
  obtain ⟨q, rfl, hq⟩ := open_sl (hval 1 24 v1 rfl rfl) h1
  obtain ⟨r, rfl, hr⟩ := open_sl (hval 2 24 v2 rfl rfl) h2
  refine (law_walk c s p q r W bc bs bp hq hr).mono fun e W' ⟨he, hb⟩ => ?_
  subst he
  exact ⟨_, rfl, law_post laidK Try.underlying4 rfl rfl hrd hW' rfl hb⟩
theorem over : Rows.polynomialFactorsRow.holds Try.pinned (OpenSpec.ofChange Rows.polynomialFactorsSpec) :=
  OpenClaim.holds_of_wide 9 Try.f9 rfl rfl rfl rfl rfl rfl rfl ⟨rfl, rfl, rfl, rfl, rfl⟩ rfl rfl rfl rfl rfl (by kernel_rfl) Try.func9 closedK
    (of_decide_eq_true (by kernel_rfl)) (by unfold Func.isWrapper; first | (rw [if_pos (by decide +kernel)]; kernel_rfl) | (rw [if_neg (by decide +kernel)]; exact ⟨rfl, rfl⟩))
    (fun os started H enc _ => lifted os started H enc)
/-- THE STATEMENT -/
theorem proved : Rows.PolynomialFactorsSaid := over
end Go.Proofs.Ythpcneeidhmdkaa.polynomialFactors
