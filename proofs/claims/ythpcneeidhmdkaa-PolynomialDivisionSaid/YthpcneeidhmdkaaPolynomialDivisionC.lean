/- For every input, the law PolynomialDivision of layer 5 (polynomial) answers true and leaves its arguments as they were. No condition. -/
import Derived.Test.YthpcneeidhmdkaaM14
import Derived.Test.YthpcneeidhmdkaaFacts
namespace Go.Proofs.Ythpcneeidhmdkaa.polynomialDivision
open Go.RowKit
set_option linter.unusedVariables false
theorem mulRes_ok {C S P : Nat} (hv : VF C S P) {a b : List Nat} (ha : LtAll S a) (ta : Trimmed a) (na : a.length ≤ 2000) (hb : LtAll S b) (tb : Trimmed b) (nb : b.length ≤ 2000) : mulRes C S P (zl a) (zl b) = (zl (mulL S P a b), 0) := by
  unfold mulRes
  rw [show pvB C S P (zl a) = true from by unfold pvB; rw [vld_of hv, polB_zl ha (by omega) ta]; rfl, show pvB C S P (zl b) = true from by unfold pvB; rw [vld_of hv, polB_zl hb (by omega) tb]; rfl, nl_zl, nl_zl, zl_length, zl_length, if_neg (show ¬ (1 ≤ a.length ∧ 1 ≤ b.length ∧ 4098 < a.length + b.length) from by omega)]; rfl
theorem divRes_ok {C S P : Nat} (hv : VF C S P) {a b : List Nat} (ha : LtAll S a) (ta : Trimmed a) (na : a.length ≤ 4097) (hb : LtAll S b) (tb : Trimmed b) (nb : b.length ≤ 4097) (hne : b ≠ []) : divRes C S P (zl a) (zl b) = (zl (divQ S P a b), zl (divRest S P a b), 0) := by
  unfold divRes
  rw [show pvB C S P (zl a) = true from by unfold pvB; rw [vld_of hv, polB_zl ha na ta]; rfl, show pvB C S P (zl b) = true from by unfold pvB; rw [vld_of hv, polB_zl hb nb tb]; rfl, nl_zl, nl_zl, if_neg (fun e => hne (zl_nil e))]; rfl
theorem divRes_none {C S P : Nat} (hv : VF C S P) {a : List Nat} (ha : LtAll S a) (ta : Trimmed a) (na : a.length ≤ 4097) : divRes C S P (zl a) [] = ([], [], 12) := by
  unfold divRes
  rw [show pvB C S P (zl a) = true from by unfold pvB; rw [vld_of hv, polB_zl ha na ta]; rfl, show pvB C S P [] = true from by unfold pvB; rw [vld_of hv]; rfl]; rfl
theorem mulL_len (S P : Nat) (a b : List Nat) : (mulL S P a b).length ≤ a.length + b.length := by
  unfold mulL
  by_cases h : a = [] ∨ b = []
  · rw [if_pos h]; simp
  · rw [if_neg h]; unfold accL; simp
/-- what was multiplied and added is found again -/
theorem division {C S P : Nat} (h : VF C S P) {q b r : List Nat} (hq : LtAll S q) (tq : Trimmed q) (hb : LtAll S b) (tb : Trimmed b) (hne : b ≠ []) (hr : LtAll S r) (tr : Trimmed r) (hl : r.length ≤ b.length - 1) :
    divQ S P (addL S P (mulL S P q b) r) b = q ∧ divRest S P (addL S P (mulL S P q b) r) b = r := by
  have hb1 : 1 ≤ b.length := List.length_pos_iff.2 hne
  have hb0 := trimmed_last tb hne
  have ha : LtAll S (addL S P (mulL S P q b) r) := addL_lt h (mulL_lt h q b) hr
  have ta : Trimmed (addL S P (mulL S P q b) r) := addL_trimmed h _ _
  have e0 : ∀ n, conv (co h (divQ S P (addL S P (mulL S P q b) r) b)) (co h b) n + co h (divRest S P (addL S P (mulL S P q b) r) b) n = conv (co h q) (co h b) n + co h r n := fun n => by
    rw [← div_eq h ha hb hb1 n, co_addL h (mulL_lt h q b) hr, co_mulL h hq hb]
  have hsb : Sup (b.length - 1 + 1) (co h b) := (co_sup h b).mono (by omega)
  obtain ⟨e1, e2⟩ := div_unique hsb (trimmed_top h hb tb hb1) ((co_sup h (divQ S P (addL S P (mulL S P q b) r) b)).mono (Nat.le_max_left _ q.length)) ((co_sup h q).mono (Nat.le_max_right _ _)) (divRest_sup h ha hb hb1 hb0) ((co_sup h r).mono hl) e0
  exact ⟨co_ext h (divQ_lt h _ _) hq (divQ_trimmed h ha hb ta hb1 hb0) tq e1, co_ext h (divRest_lt h ha) hr (divRest_trimmed h _ _) tr e2⟩
theorem ltAll_take {S : Nat} {l : List Nat} (hS : 0 < S) (h : LtAll S l) (k : Nat) : LtAll S (l.take k) := fun i => by
  rw [getD_take]; by_cases hi : i < k
  · rw [if_pos hi]; exact h i
  · rw [if_neg hi]; exact hS
theorem RD.take {w : World} {A : Option Addr} {l : List Nat} (h : RD w A (zl l)) (k : Nat) : RD w A (zl (l.take k)) := fun hn => by
  rw [zl_length, List.length_take] at hn
  obtain ⟨ad, rfl, h1, h2⟩ := h (by rw [zl_length]; omega)
  refine ⟨ad, rfl, h1, fun j hj => ?_⟩
  rw [zl_length, List.length_take] at hj
  rw [h2 j (by rw [zl_length]; omega), zl_getD, zl_getD, getD_take, if_pos (by omega)]
set_option maxRecDepth 100000 in
set_option maxHeartbeats 4000000 in
theorem law_walk (c s p : Int) (q r t : Sl) (w : World) (bc : I64 c) (bs : I64 s) (bp : I64 p) (hq : q.R w) (hr : r.R w) (ht : t.R w) :
    Calls Try.prog 10 #[fldv c s p, q.v, r.v, t.v] w fun e w' => e = .returned (.bool true) ∧ Below w.heap.size w w' := by
  obtain ⟨A, n, ca, xs⟩ := q
  obtain ⟨B, m, cb, ys⟩ := r
  obtain ⟨D, k, cd, zs⟩ := t
  have hp := bp.2
  have hbx : Below w.heap.size w (w.alloc (fldB c s p)) := (Below.refl _ _).alloc (Nat.le_refl _) _
  have HQ := Lib.hid (hq.below hbx)
  have HR := Lib.hid (hr.below hbx)
  have HU := Lib.hid (ht.below hbx)
  have hnm : n ≤ 9223372036854775807 := hq.hm
  have hmm : m ≤ 9223372036854775807 := hr.hm
  have hkm : k ≤ 9223372036854775807 := ht.hm
  have HNX : Hid (n = xs.length) := hq.hn
  have HMX : Hid (m = ys.length) := hr.hn
  have HKX : Hid (k = zs.length) := ht.hn
  have HKC : Hid (k ≤ cd) := ht.hc
  have HKM : Hid (cd ≤ maxLen) := ht.hcm
  show Calls Try.prog 10 #[fldv c s p, .slice A n ca, .slice B m cb, .slice D k cd] w fun e w' => e = .returned (.bool true) ∧ Below w.heap.size w w'
  have CB : Hid (CellsAt (w.alloc (fldB c s p)) w.heap.size (fldC c s p)) := CellsAt.new _ _ _ _ rfl
  clear hq hr ht hbx bc bs bp
  cases hV : lvB c s p 100 xs && (lvB c s p 100 ys && lvB c s p 100 zs) with
  | false =>
    have HV := Lib.hid hV
    clear hV
    go_enter Try.func10, Try.ntmps10
    go_wp2_with fail
    refine (lvalid3 c s p 100 100 rfl A B D n ca m cb k cd xs ys zs (w.heap.size + 1) _ 24 (by omega) hp (by simp) HQ.out HR.out HU.out).mono ?_
    rintro e w1 ⟨rfl, hb1⟩
    rw [HV.out]
    go_wp2_with fail
    refine (examples_any _).mono ?_
    rintro e w2 ⟨rfl, hb2⟩
    go_wp2_with fail
    go_ret
    exact ⟨rfl, bw1 (bwStep (bwStep (bwA _ _) hb1) hb2)⟩
  | true =>
    have HV := Lib.hid hV
    rw [Bool.and_eq_true, Bool.and_eq_true] at hV
    obtain ⟨C, S, P, a, rfl, rfl, rfl, rfl, hv, hla, hta, hna⟩ := lvB_nat hV.1
    obtain ⟨C', S', P', b, e1, e2, e3, rfl, -, hlb, htb, hnb⟩ := lvB_nat hV.2.1
    obtain rfl : S = S' := by omega
    obtain ⟨C2, S2, P2, d, e4, e5, e6, rfl, -, hld, htd, hnd⟩ := lvB_nat hV.2.2
    obtain rfl : S = S2 := by omega
    have hnx := HNX.out
    have hmx := HMX.out
    have hkx := HKX.out
    rw [zl_length] at hnx hmx hkx
    have hm1 : m ≤ 100 := by omega
    have hk1 : k ≤ 100 := by omega
    by_cases h0 : m = 0
    · subst h0
      clear hV hv hla hta hna hlb htb hnb hld htd hnd e1 e2 e3 e4 e5 e6 hnx hmx hkx
      go_enter Try.func10, Try.ntmps10
      go_wp2_with fail
      refine (lvalid3 C S P 100 100 rfl A B D n ca 0 cb k cd (zl a) (zl b) (zl d) (w.heap.size + 1) _ 24 (by omega) hp (by simp) HQ.out HR.out HU.out).mono ?_
      rintro e w1 ⟨rfl, hb1⟩
      rw [HV.out]
      go_wp2_with fail
      refine (examples_any _).mono ?_
      rintro e w2 ⟨rfl, hb2⟩
      go_wp2_with fail
      go_ret
      exact ⟨rfl, bw1 (bwStep (bwStep (bwA _ _) hb1) hb2)⟩
    · have hne : b ≠ [] := fun e => h0 (by rw [hmx, e]; rfl)
      obtain ⟨j, hj⟩ : ∃ j, j = min k (m - 1) := ⟨_, rfl⟩
      have hmin : min (k : Int) ((m : Int) - 1) = (j : Int) := by omega
      have hjk : j ≤ k := by omega
      have hjc : j ≤ cd := by have := HKC.out; omega
      have hjm : j ≤ m - 1 := by omega
      have hm0 : 1 ≤ m := by omega
      have hz0 : ((m : Int) == 0) = false := by rw [beq_eq_false_iff_ne]; omega
      have hS : 0 < S := by have := hv.two_le; omega
      have hlr : LtAll S (trimL (d.take j)) := ltAll_trim (ltAll_take hS hld j)
      have htr : Trimmed (trimL (d.take j)) := trimL_trimmed _
      have hrl : (trimL (d.take j)).length ≤ j := by
        rw [trimL_length]; exact Nat.le_trans (tl_le _ _) (by rw [List.length_take]; omega)
      have HMUL : Hid (mulRes C S P (zl a) (zl b) = (zl (mulL S P a b), 0)) := mulRes_ok hv hla hta (by omega) hlb htb (by omega)
      have hml := mulL_len S P a b
      have hsl := addL_length (s := S) (p := P) (mulL S P a b) (trimL (d.take j))
      have tm : Trimmed (mulL S P a b) := mulL_trimmed hv hla hlb hta htb
      have lm := mulL_lt hv a b
      have HADD : Hid (addRes C S P (zl (mulL S P a b)) (zl (trimL (d.take j))) = (zl (addL S P (mulL S P a b) (trimL (d.take j))), 0)) := addRes_ok hv lm tm (by omega) hlr htr (by omega)
      obtain ⟨dv1, dv2⟩ := division hv hla hta hlb htb hne hlr htr (by omega)
      have HDIV : Hid (divRes C S P (zl (addL S P (mulL S P a b) (trimL (d.take j)))) (zl b) = (zl a, zl (trimL (d.take j)), 0)) := by
        show _ = _
        rw [divRes_ok hv (addL_lt hv lm hlr) (addL_trimmed hv _ _) (by omega) hlb htb (by omega) hne, dv1, dv2]
      have HNON : Hid (divRes C S P (zl (addL S P (mulL S P a b) (trimL (d.take j)))) [] = ([], [], 12)) := divRes_none hv (addL_lt hv lm hlr) (addL_trimmed hv _ _) (by omega)
      have HRT : Hid (j = (d.take j).length) := by show _ = _; rw [List.length_take]; omega
      clear hV hv hla hta hna hlb htb hnb hld htd hnd e1 e2 e3 e4 e5 e6 hnx hmx hkx dv1 dv2 hlr htr hrl hml hsl tm lm hne hj h0
      go_enter Try.func10, Try.ntmps10
      go_wp2_with fail
      refine (lvalid3 C S P 100 100 rfl A B D n ca m cb k cd (zl a) (zl b) (zl d) (w.heap.size + 1) _ 24 (by omega) hp (by simp) HQ.out HR.out HU.out).mono ?_
      rintro e w1 ⟨rfl, hb1⟩
      rw [HV.out]
      have hbz := bwStep (bwA (w.alloc (fldB C S P)) (.cells #[.slice A n ca, .slice B m cb, .slice D k cd] 24)) hb1
      have HB1 : Hid (Below w.heap.size w w1) := bw1 hbz
      have HX1 : Hid (CellsAt w1 w.heap.size (fldC C S P)) := CB.out.below hbz
      have HQ1 := Lib.hid (HQ.out.below hbz)
      have HR1 := Lib.hid (HR.out.below hbz)
      have HU1 : Hid (RD w1 D (zl (d.take j))) := RD.take (HU.out.below hbz).rd j
      clear hb1 hbz HQ HR HU CB
      go_wp2_with fail
      refine (Trim_n (d.take j) j HRT.out D cd _ (by omega) hjc HU1.out).mono ?_
      rintro e w2 ⟨v2, rfl, hI2, hb2⟩
      have HI2 := Lib.hid hI2
      have HB2 := Lib.hid hb2
      clear hI2 hb2
      obtain ⟨D2, n2, c2, rfl, hq2⟩ := HI2.out.parts
      have HT2 := Lib.hid hq2
      have HQ2 := Lib.hid (HQ1.out.below HB2.out)
      have HR2 := Lib.hid (HR1.out.below HB2.out)
      have HX2 : Hid (CellsAt w2 w.heap.size (fldC C S P)) := HX1.out.below HB2.out
      have HBB2 : Hid (Below w.heap.size w w2) := bwStep HB1.out HB2.out
      clear hq2
      have CF : Hid (∀ W, Abv w2 W → (W.cell? ⟨w.heap.size, 0, none⟩ = some (.int .i64 C) ∧ W.cell? ⟨w.heap.size, 1, none⟩ = some (.int .i64 S) ∧ W.cell? ⟨w.heap.size, 2, none⟩ = some (.int .i64 P))) := fun W hW => fldC_cells (HX2.out.below hW)
      go_wp2_with fail
      refine wp_region_W (S := Abv w2) [(false, 0), (false, 1), (false, 2), (false, 3), (false, 5), (true, 4), (true, 6), (false, 7), (false, 8), (false, 9), (false, 10), (false, 11)] (by kernel_rfl) (by kernel_rfl) (bwDrew (Below.refl _ _)) ?_
      simp only [attachW, List.getElem?_cons_zero, List.getElem?_cons_succ]
      repeat
        refine' wpHX_val rfl (fun W hW => ?_) ?_
        rotate_left
        · have hcf := CF.out W hW; go_simp; rfl
        simp only [Act.put, List.setIfInBounds_toArray, List.set_cons_zero, List.set_cons_succ]
      refine' wpHX_acall rfl (fun W => ?_) ?_
      rotate_left 2
      · go_simp; exact ⟨rfl, rfl⟩
      refine (lmul_any C S P ⟨A, n, ca, zl a⟩ ⟨B, m, cb, zl b⟩ _ hp (HQ2.out.below (bwDrew (Below.refl _ _))) (HR2.out.below (bwDrew (Below.refl _ _)))).mono ?_
      rintro e w3 ⟨v3, rfl, hI3, hb3⟩
      rw [HMUL.out] at hI3
      have HB3 : Hid (Abv w2 w3) := bwStep (bwDrew (Below.refl _ _)) hb3
      obtain ⟨A3, n3, c3, rfl, hq3⟩ := hI3.parts
      have HQ3 := Lib.hid hq3
      clear hI3 hb3 hq3
      refine ⟨_, rfl, HB3.out, ?_⟩
      simp only [Act.put, List.setIfInBounds_toArray, List.set_cons_zero, List.set_cons_succ]
      refine' wpHX_acall rfl (fun W => ?_) ?_
      rotate_left 2
      · go_simp; exact ⟨rfl, rfl⟩
      refine (pAdd_n C S P A3 n3 c3 _ D2 n2 c2 _ _ hp HQ3.out (HT2.out.below HB3.out)).mono ?_
      rintro e w4 ⟨v4, rfl, hI4, hb4⟩
      rw [HADD.out] at hI4 ⊢
      have HB4 : Hid (Abv w2 w4) := bwStep HB3.out hb4
      have HI4 := Lib.hid hI4
      clear hI4 hb4
      refine ⟨_, rfl, HB4.out, ?_⟩
      simp only [Act.put, List.setIfInBounds_toArray, List.set_cons_zero, List.set_cons_succ]
      repeat
        refine' wpHX_val rfl (fun W hW => ?_) ?_
        rotate_left
        · have hcf := CF.out W hW; go_simp; rfl
        simp only [Act.put, List.setIfInBounds_toArray, List.set_cons_zero, List.set_cons_succ]
      refine wpHX_nil ?_
      obtain ⟨A4, n4, c4, rfl, hq4⟩ := HI4.out.parts
      have HQ4 := Lib.hid hq4
      clear hq4
      obtain ⟨f0, f1, f2⟩ := CF.out w4 HB4.out
      go_wp2_with fail
      refine (pDivMod_any C S P ⟨A4, n4, c4, _⟩ ⟨B, m, cb, zl b⟩ _ hp HQ4.out (HR2.out.below HB4.out)).mono ?_
      rintro e w5 ⟨v5, u5, rfl, hI5, hJ5, hb5⟩
      dsimp only at hI5 hJ5 ⊢
      rw [HDIV.out] at hI5 hJ5 ⊢
      have HB5 : Hid (Abv w2 w5) := bwStep HB4.out hb5
      have HI5 := Lib.hid hI5
      have HJ5 := Lib.hid hJ5
      have HQ5 := Lib.hid (HQ4.out.below hb5)
      clear hI5 hJ5 hb5 f0 f1 f2
      obtain ⟨f0, f1, f2⟩ := CF.out w5 HB5.out
      go_wp2_with fail
      refine (pDivMod_any C S P ⟨A4, n4, c4, _⟩ ⟨none, 0, 0, []⟩ _ hp HQ5.out ⟨rfl, by simp only; omega, RD.nil_ _ _, Nat.le_refl _, by simp⟩).mono ?_
      rintro e w6 ⟨v6, u6, rfl, hI6, hJ6, hb6⟩
      dsimp only at hI6 hJ6 ⊢
      rw [HNON.out]
      have HN6 := Lib.hid hb6
      have HB6 : Hid (Abv w2 w6) := bwStep HB5.out hb6
      clear hI6 hJ6 hb6 f0 f1 f2
      go_wp2_with fail
      refine (same_v (zl a) (zl a) v5 _ _ (HI5.out.below HN6.out) (HQ2.out.below HB6.out).ints).mono ?_
      rintro e w7 ⟨rfl, hb7⟩
      rw [show decide (zl a = zl a) = true from by simp]
      have HB7 : Hid (Abv w2 w7) := bwStep HB6.out hb7
      have HN7 := Lib.hid hb7
      clear hb7
      go_wp2_with fail
      refine (same_v _ _ u5 _ _ ((HJ5.out.below HN6.out).below HN7.out) (HT2.out.below HB7.out).ints).mono ?_
      rintro e w8 ⟨rfl, hb8⟩
      rw [show decide (zl (trimL (d.take j)) = zl (trimL (d.take j))) = true from by simp]
      have HB8 : Hid (Abv w2 w8) := bwStep HB7.out hb8
      clear hb8
      go_wp2_with fail
      refine (examples_any _).mono ?_
      rintro e w9 ⟨rfl, hb9⟩
      go_wp2_with fail
      go_ret
      exact ⟨rfl, bwStep (bwStep HBB2.out HB8.out) hb9⟩
end Go.Proofs.Ythpcneeidhmdkaa.polynomialDivision
namespace Go.Proofs.Ythpcneeidhmdkaa.polynomialDivision
open Go.ChangeShapes Go.WideShapes Go.ChangeAt Go.RowKit
set_option linter.unusedVariables false
theorem k0 : Rows.polynomialDivisionRow.wf (OpenSpec.ofChange Rows.polynomialDivisionSpec) = true := by kernel_rfl
theorem k3 : Try.f10.params.all (Try.prog.readableRec ·) = true := by kernel_rfl
theorem k4 : namedTie Try.prog Rows.polynomialDivisionRow.named Rows.polynomialDivisionSpec.vars = true := by kernel_rfl
theorem k5 : (Rows.polynomialDivisionRow.stops == []) = true := by kernel_rfl
theorem k7 : (Rows.polynomialDivisionRow.knobs == []) = true := by kernel_rfl
theorem k9 : (Rows.polynomialDivisionRow.inPlace == Try.prog.inPlace 10) = true := by kernel_rfl
theorem k10 : (Rows.polynomialDivisionRow.unfollowed == Try.prog.unfollowed 10) = true := by kernel_rfl
theorem k11 : (Rows.polynomialDivisionRow.recurses == Try.prog.recurses 10) = true := by kernel_rfl
theorem k12 : (Rows.polynomialDivisionRow.named == Try.prog.varsNamed 10) = true := by kernel_rfl
theorem k13 : (Rows.polynomialDivisionRow.maps == (Try.f10.params.toList ++ Rows.polynomialDivisionSpec.plain.varTypes Try.prog).any (Try.prog.mapsRec ·)) = true := by kernel_rfl
theorem k14 : (Rows.polynomialDivisionRow.ifaces == (Try.f10.params.toList ++ Rows.polynomialDivisionSpec.plain.varTypes Try.prog).any (Try.prog.ifacesRec ·)) = true := by kernel_rfl
theorem k15 : (Rows.polynomialDivisionRow.mapsOut == Try.prog.mapsAmong Try.f10.resultTypes.toList) = true := by kernel_rfl
theorem k16 : (Rows.polynomialDivisionRow.loops == (Try.f10.params.toList ++ Rows.polynomialDivisionSpec.plain.varTypes Try.prog).any (Try.prog.loopsFrom ·)) = true := by kernel_rfl
theorem k17 : (Rows.polynomialDivisionRow.wideKeys == (Try.f10.params.toList ++ Rows.polynomialDivisionSpec.plain.varTypes Try.prog ++ Try.f10.resultTypes.toList).any (Try.prog.wideKeysFrom ·)) = true := by kernel_rfl
theorem k18 : Rows.polynomialDivisionSpec.vars.all (Try.prog.varReadable ·) = true := by kernel_rfl
theorem k19 : Try.f10.resultTypes.all (fun t => Try.prog.readableRec t && decide (t < Try.prog.types.size)) = true := by kernel_rfl
theorem k20 : (Rows.polynomialDivisionRow.ifacesOut == Try.f10.resultTypes.toList.any (Try.prog.ifacesRec ·)) = true := by kernel_rfl
theorem k21 : (Rows.polynomialDivisionRow.loopsOut == Try.f10.resultTypes.toList.any (Try.prog.loopsFrom ·)) = true := by kernel_rfl
theorem k22 : (Rows.polynomialDivisionRow.plainKeys == Try.prog.plainKeys) = true := by kernel_rfl
theorem k23 : Rows.polynomialDivisionRow.shortTexts.isNone = true := by kernel_rfl
theorem k26 : (Rows.polynomialDivisionRow.lifted == Try.prog.liftsFinal) = true := by kernel_rfl
theorem k27 : (Try.prog.make == some Rows.polynomialDivisionRow.make) = true := by kernel_rfl
theorem k28 : (Rows.polynomialDivisionRow.kinds == (if Rows.polynomialDivisionRow.domain.isEmpty then [] else Try.f10.params.toList.map fun t => match Try.prog.underlying t with | some (.int k) => some k | _ => none)) = true := by kernel_rfl
theorem k29 : (Rows.polynomialDivisionRow.pinned == Rows.polynomialDivisionRow.pinnedBy) = true := by kernel_rfl
theorem k30 : (Rows.polynomialDivisionRow.veiled == (Try.f10.params.toList ++ Rows.polynomialDivisionSpec.plain.varTypes Try.prog ++ Try.f10.resultTypes.toList).any (Try.prog.veiledRec ·)) = true := by kernel_rfl
theorem k31 : Rows.polynomialDivisionRow.veiledFits Try.prog Try.f10.params.toList (Try.f10.params.toList ++ Rows.polynomialDivisionSpec.plain.varTypes Try.prog ++ Try.f10.resultTypes.toList) = true := by kernel_rfl
theorem closedK : joinedFacts Try.prog 10 Try.f10 Rows.polynomialDivisionSpec Rows.polynomialDivisionRow = true := and_tt (and_tt (and_tt (and_tt (and_tt (and_tt (and_tt (and_tt (and_tt (and_tt (and_tt (and_tt (and_tt (and_tt (and_tt (and_tt (and_tt (and_tt (and_tt (and_tt (and_tt (and_tt (and_tt (and_tt (and_tt (and_tt (and_tt (and_tt (and_tt (and_tt (and_tt k0 fp_laid) fp_mapsRowed) k3) k4) k5) fp_stops) k7) fp_stopKnobs) k9) k10) k11) k12) k13) k14) k15) k16) k17) k18) k19) k20) k21) k22) k23) fp_stopsHeard) fp_mayEnter) k26) k27) k28) k29) k30) k31

theorem ownK : ownKnob Try.prog.godebug = none := by kernel_rfl
theorem laidK : laidOutB Try.prog = true := by kernel_rfl
set_option maxRecDepth 100000 in
theorem lifted (os : Os) (started : os.Started) (H : Type) (enc : TypeId × Value → H) :
    ReturnsInHanded {} Try.checked os 10 .any (Rows.polynomialDivisionSpec.pre6 enc Try.prog Try.f10 Rows.polynomialDivisionRow.domain false) (Rows.polynomialDivisionSpec.post enc Try.prog Try.f10 false true false false) := by
  refine returnsInHanded_of_change (C := Try.checked) ownK started (by kernel_rfl) Try.func10
    (ChangeSpec.witness6 (enc := enc) (C := Try.checked) false ⟨#[], #[.agg #[.int .i64 0, .int .i64 0, .int .i64 0], .slice none 0 0, .slice none 0 0, .slice none 0 0], []⟩ 12 (by kernel_rfl) (by kernel_rfl) (by kernel_rfl) (by kernel_rfl)) ?_
  intro W base args ds gs before hval0 hW hcnd _
  have hval : ∀ (j : Nat) t v, Try.f10.params[j]? = some t → args[j]? = some v → Value.okWide Try.prog W .any base t v := hval0
  have hW' := hW
  obtain ⟨p, q, hA0, hV, rfl, hfz, hnd⟩ := hW
  have hA : DataW.TrodAll enc Try.prog W 0 (fun _ => true) true Try.f10.params.toList args.toList ds p := hA0
  rw [Try.params10] at hA hval
  obtain ⟨v0, vs0, d0, ds0, p0, q0, hargs, rfl, rfl, h0, r0⟩ := trodAll_cons hA
  obtain ⟨v1, vs1, d1, ds1, p1, q1, rfl, rfl, rfl, h1, r1⟩ := trodAll_cons r0
  obtain ⟨v2, vs2, d2, ds2, p2, q2, rfl, rfl, rfl, h2, r2⟩ := trodAll_cons r1
  obtain ⟨v3, vs3, d3, ds3, p3, q3, rfl, rfl, rfl, h3, r3⟩ := trodAll_cons r2
  obtain ⟨rfl, rfl, rfl⟩ := trodAll_nil r3
  obtain rfl : args = #[v0, v1, v2, v3] := by cases args; simp_all
  obtain ⟨rfl, rfl⟩ := trodVars_none hV
  have hrd : ∀ t ∈ Try.f10.params.toList, Try.prog.readableRec t = true ∧ t < Try.prog.types.size := by
    rw [Try.params10]
    intro t ht
    simp only [List.mem_cons, List.not_mem_nil, or_false] at ht
    rcases ht with rfl | rfl | rfl | rfl <;> exact ⟨by kernel_rfl, of_decide_eq_true (by kernel_rfl)⟩
  obtain ⟨c, s, p, rfl, bc, bs, bp⟩ := open_fld (hval 0 23 v0 rfl rfl) h0
  obtain ⟨q, rfl, hq⟩ := open_sl (hval 1 24 v1 rfl rfl) h1
  obtain ⟨r, rfl, hr⟩ := open_sl (hval 2 24 v2 rfl rfl) h2
  obtain ⟨t, rfl, ht⟩ := open_sl (hval 3 24 v3 rfl rfl) h3
  refine (law_walk c s p q r t W bc bs bp hq hr ht).mono fun e W' ⟨he, hb⟩ => ?_
  subst he
  exact ⟨_, rfl, law_post laidK Try.underlying4 rfl rfl hrd hW' rfl hb⟩
theorem over : Rows.polynomialDivisionRow.holds Try.pinned (OpenSpec.ofChange Rows.polynomialDivisionSpec) :=
  OpenClaim.holds_of_wide 10 Try.f10 rfl rfl rfl rfl rfl rfl rfl ⟨rfl, rfl, rfl, rfl, rfl⟩ rfl rfl rfl rfl rfl (by kernel_rfl) Try.func10 closedK
    (of_decide_eq_true (by kernel_rfl)) (by unfold Func.isWrapper; first | (rw [if_pos (by decide +kernel)]; kernel_rfl) | (rw [if_neg (by decide +kernel)]; exact ⟨rfl, rfl⟩))
    (fun os started H enc _ => lifted os started H enc)
/-- THE STATEMENT -/
theorem proved : Rows.PolynomialDivisionSaid := over
end Go.Proofs.Ythpcneeidhmdkaa.polynomialDivision
