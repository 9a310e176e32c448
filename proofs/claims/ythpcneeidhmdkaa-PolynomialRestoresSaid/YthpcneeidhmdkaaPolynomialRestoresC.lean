/- For every input, the law PolynomialRestores of layer 5 (polynomial) answers true and leaves its arguments as they were. No condition. -/
import Derived.Test.YthpcneeidhmdkaaM13
import Derived.Test.YthpcneeidhmdkaaFacts
namespace Go.Proofs.Ythpcneeidhmdkaa.polynomialRestores
open Go.RowKit
set_option linter.unusedVariables false
/-- the values at the first k points -/
def valsL (S P : Nat) (a : List Nat) (ys : List Int) (k : Nat) : List Nat := rgL (fun i => hornN S P (ys.getD i 0).toNat a) k
theorem getD_rg (f : Nat → Nat) {k i : Nat} (h : i < k) : (rgL f k).getD i 0 = f i := by unfold rgL; exact getD_map_range f k i h
theorem vals_lt {C S P : Nat} (hv : VF C S P) {a : List Nat} (ha : LtAll S a) (ys : List Int) (k : Nat) (hy : ∀ j, j < k → isB S (ys.getD j 0) = true) : LtAll S (valsL S P a ys k) := fun i => by
  by_cases hi : i < k
  · unfold valsL; rw [getD_rg _ hi]
    exact hornN_lt hv _ _ (ltAll_mem ha)
  · have : (valsL S P a ys k).getD i 0 = 0 := by
      have hl : (valsL S P a ys k).length ≤ i := by unfold valsL; rw [rgL_length]; omega
      simp [List.getD, hl]
    rw [this]; have := hv.two_le; omega
theorem restores {C S P : Nat} (hv : VF C S P) {a : List Nat} (ha : LtAll S a) (ta : Trimmed a) (ys : List Int) (hn : a.length ≤ ys.length) (hy : ∀ j, j < ys.length → isB S (ys.getD j 0) = true) :
    interpRes C S P ys (zl (valsL S P a ys ys.length)) = (if ys.Nodup then zl a else [], if ys.Nodup then 0 else 30) := by
  have hS : 0 < S := by have := hv.two_le; omega
  have hin : inB S ys = true := inB_end fun j hj => by have := hy j hj; unfold isB at this; simpa using this
  obtain ⟨b, rfl, hb⟩ := inB_nat hS hin
  have hvl := vals_lt hv ha (zl b) _ hy
  unfold interpRes
  rw [vld_of hv, hin, inB_zl hvl, if_pos (show (true && true && true) = true from rfl), if_pos (by rw [zl_length, zl_length]; unfold valsL; rw [rgL_length]), nl_zl, nl_zl]
  by_cases hd : (zl b).Nodup
  · rw [if_pos hd, if_pos hd, if_pos hd]
    have hd' : b.Nodup := (nodup_zl b).1 hd
    have hl0 : (valsL S P a (zl b) (zl b).length).length = b.length := by unfold valsL; rw [rgL_length]; exact zl_length b
    have e : interpL S P b (valsL S P a (zl b) (zl b).length) = a := by
      refine interp_unique hv hb hvl hd' hl0 ha ta (by rwa [zl_length] at hn) fun m hm => ?_
      rw [← horn_vl hv (hb m) ha]
      unfold valsL
      rw [getD_rg _ (by rw [zl_length]; exact hm), zl_getD]
      rfl
    show (zl (interpL S P b _), (0 : Int)) = _
    rw [e]
  · rw [if_neg hd, if_neg hd, if_neg hd]
set_option maxRecDepth 100000 in
set_option maxHeartbeats 4000000 in
theorem law_walk (c s p : Int) (q r : Sl) (w : World) (bc : I64 c) (bs : I64 s) (bp : I64 p) (hq : q.R w) (hr : r.R w) :
    Calls Try.prog 5 #[fldv c s p, q.v, r.v] w fun e w' => e = .returned (.bool true) ∧ Below w.heap.size w w' := by
  obtain ⟨i0, hi, hz0, hz1, hz2⟩ := info_parts intInfo
  obtain ⟨A, n, ca, xs⟩ := q
  obtain ⟨B, m, cb, ys⟩ := r
  have hp := bp.2
  have hs := bs.2
  have hbx : Below w.heap.size w (w.alloc (fldB c s p)) := (Below.refl _ _).alloc (Nat.le_refl _) _
  have HQ := Lib.hid (hq.below hbx)
  have HR := Lib.hid (hr.below hbx)
  have hnm : n ≤ 9223372036854775807 := hq.hm
  have hmm : m ≤ 9223372036854775807 := hr.hm
  have HNX : Hid (n = xs.length) := hq.hn
  have HMX : Hid (m = ys.length) := hr.hn
  show Calls Try.prog 5 #[fldv c s p, .slice A n ca, .slice B m cb] w fun e w' => e = .returned (.bool true) ∧ Below w.heap.size w w'
  have CB : Hid (CellsAt (w.alloc (fldB c s p)) w.heap.size (fldC c s p)) := CellsAt.new _ _ _ _ rfl
  clear hq hr hbx bc bs bp
  cases hV : lvB c s p 30 xs with
  | false =>
    have HV := Lib.hid hV
    clear hV
    go_enter Try.func5, Try.ntmps5
    go_wp2_with fail
    refine (lvalid1 c s p 30 30 rfl A n ca xs (w.heap.size + 1) _ 24 (by omega) hp (by simp) HQ.out).mono ?_
    rintro e w1 ⟨rfl, hb1⟩
    rw [HV.out]
    go_wp2_with fail
    refine (examples_any _).mono ?_
    rintro e w2 ⟨rfl, hb2⟩
    go_wp2_with fail
    go_ret
    exact ⟨rfl, bw1 (bwStep (bwStep (bwA _ _) hb1) hb2)⟩
  | true =>
    have HV := Lib.hid hV
    have hcase : 30 < m ∨ (m ≤ 30 ∧ m < n) ∨ (m ≤ 30 ∧ n ≤ m) := by omega
    rcases hcase with h1 | ⟨h1, h2⟩ | ⟨h1, h2⟩
    · have z1 : decide (30 < m) = true := by simp; omega
      clear hV
      go_enter Try.func5, Try.ntmps5
      go_wp2_with fail
      refine (lvalid1 c s p 30 30 rfl A n ca xs (w.heap.size + 1) _ 24 (by omega) hp (by simp) HQ.out).mono ?_
      rintro e w1 ⟨rfl, hb1⟩
      rw [HV.out]
      go_wp2_with fail
      refine (examples_any _).mono ?_
      rintro e w2 ⟨rfl, hb2⟩
      go_wp2_with fail
      go_ret
      exact ⟨rfl, bw1 (bwStep (bwStep (bwA _ _) hb1) hb2)⟩
    · have z1 : decide (30 < m) = false := by simp; omega
      have z2 : decide (m < n) = true := by simp; omega
      clear hV
      go_enter Try.func5, Try.ntmps5
      go_wp2_with fail
      refine (lvalid1 c s p 30 30 rfl A n ca xs (w.heap.size + 1) _ 24 (by omega) hp (by simp) HQ.out).mono ?_
      rintro e w1 ⟨rfl, hb1⟩
      rw [HV.out]
      go_wp2_with fail
      refine (examples_any _).mono ?_
      rintro e w2 ⟨rfl, hb2⟩
      go_wp2_with fail
      go_ret
      exact ⟨rfl, bw1 (bwStep (bwStep (bwA _ _) hb1) hb2)⟩
    · have z1 : decide (30 < m) = false := by simp; omega
      have z2 : decide (m < n) = false := by simp; omega
      obtain ⟨C, S, P, a, rfl, rfl, rfl, rfl, hv, hla, hta, hna⟩ := lvB_nat hV
      have HPV : Hid (pvB C S P (zl a) = true) := by unfold lvB at hV; rw [Bool.and_eq_true] at hV; exact hV.2
      have HVF := Lib.hid hv
      have HLA := Lib.hid hla
      have hnx := HNX.out
      have hmx := HMX.out
      have HRES : Hid ((∀ j, j < m → isB S (ys.getD j 0) = true) → interpRes C S P ys (zl (valsL S P a ys m)) = (if ys.Nodup then zl a else [], if ys.Nodup then 0 else 30)) := by
        have h5 : a.length ≤ ys.length := by rw [zl_length] at hnx; omega
        rw [hmx]
        exact fun hy => restores hv hla hta ys h5 hy
      have HMM := HMX
      clear hV hv hla hta hnx hmx
      go_enter Try.func5, Try.ntmps5
      go_wp2_with fail
      refine (lvalid1 C S P 30 30 rfl A n ca (zl a) (w.heap.size + 1) _ 24 (by omega) hp (by simp) HQ.out).mono ?_
      rintro e w1 ⟨rfl, hb1⟩
      rw [HV.out]
      have HB1 : Hid (Below w.heap.size w w1) := bw1 (bwStep (bwA _ _) hb1)
      have HX1 : Hid (CellsAt w1 w.heap.size (fldC C S P)) := CB.out.below (bwStep (bwA _ _) hb1)
      have HQ1 := Lib.hid ((HQ.out.below (bwA _ (.cells #[.slice A n ca] 24))).below hb1)
      have HR1 := Lib.hid ((HR.out.below (bwA _ (.cells #[.slice A n ca] 24))).below hb1)
      clear hb1 HQ HR CB
      go_wp2_with fail
      go_loopw [7, 34] (fun sv iv wr => ∃ k : Nat, k ≤ m ∧ iv = .int .i64 k ∧ Hid (OwnL w1 wr sv (valsL S P a ys k)) ∧ Hid (∀ j, j < k → isB S (ys.getD j 0) = true)) (fun _ iv _ => m - (intOf iv).toNat)
      case atStart => exact ⟨0, Nat.zero_le _, rfl, OwnL.start _, fun j hj => by omega⟩
      case round =>
        obtain ⟨k, hk, rfl, hO, hid⟩ := hrel
        by_cases hlt : k < m
        · obtain ⟨bd, rfl, hbdw, hcb⟩ := HR1.out.rd (by rw [← HMM.out]; omega)
          have hx1 : wr.cell? (bd.add k) = some (.int .i64 (ys.getD k 0)) := by
            rw [hO.out.B.cell (by rw [block_of_add]; exact hbdw), hcb k (by rw [← HMM.out]; exact hlt)]
          have HVS : Hid (valsL S P a ys (k + 1) = valsL S P a ys k ++ [hornN S P (ys.getD k 0).toNat a]) := rgL_succ _ k
          have HVN : Hid ((valsL S P a ys k).length = k) := rgL_length _ k
          clear hcb
          obtain ⟨f0, f1, f2⟩ := fldC_cells (HX1.out.below hO.out.B)
          generalize hxe : ys.getD k 0 = x at *
          have HXE := Lib.hid hxe
          clear hxe
          cases hI : isB S x with
          | true =>
            have HEV : Hid (evalRes C S P (zl a) x = (((hornN S P x.toNat a : Nat) : Int), 0)) := by show _ = _; unfold evalRes; rw [HPV.out, hI, nl_zl]; rfl
            have HN2 : Hid (∀ j, j < k + 1 → isB S (ys.getD j 0) = true) := fun j hj => by
              by_cases hjk : j = k
              · subst hjk; rw [HXE.out]; exact hI
              · exact hid.out j (by omega)
            generalize hornN S P x.toNat a = h1 at *
            clear hI
            go_wp2_with fail
            refine (pEval_any C S P x ⟨A, n, ca, zl a⟩ _ hp (HQ1.out.below hO.out.B)).mono ?_
            rintro e w2 ⟨rfl, hb2⟩
            rw [HEV.out]
            have HB2 := Lib.hid hb2
            clear hb2 f0 f1 f2
            have HO2 := Lib.hid (hO.out.below HB2.out)
            go_wp2_with (at_builtin; refine wpList_append_read rfl _ _ _ rfl w1.heap.size 3 i0 _ Try.underlying24 hi hz0 hz1 hz2 rfl _ (valsL S P a ys k).length (zl (valsL S P a ys k)) rfl (HO2.out.O.alloc _) (some ⟨w2.heap.size, 0, none⟩) 1 1 [((h1 : Nat) : Int)] rfl rfl (RD.one _ _ _ _ rfl) (by rw [HVN.out]; omega) (by have := HO2.out.B.size; simp; omega) ?_; intro v5 w5 hown hg hat; have HB5 : Hid (OwnL w1 w5 v5 (valsL S P a ys k ++ [h1])) := HO2.out.push (Below.refl _ _) hown hg; clear hown hg hat)
            exact ⟨⟨k + 1, by omega, by go_num, by rw [HVS.out]; exact HB5, HN2⟩, by simp [intOf]; omega⟩
          | false =>
            have HEV : Hid (evalRes C S P (zl a) x = (0, 1)) := by show _ = _; unfold evalRes; rw [HPV.out, hI]; rfl
            unfold isB at hI
            by_cases hx0 : x < 0
            · have z3 : decide (x < 0) = true := by simpa using hx0
              clear hI hx0
              go_wp2_with fail
              refine (pEval_any C S P x ⟨A, n, ca, zl a⟩ _ hp (HQ1.out.below hO.out.B)).mono ?_
              rintro e w2 ⟨rfl, hb2⟩
              rw [HEV.out]
              have HB2 := Lib.hid hb2
              clear hb2 f0 f1 f2
              go_wp2_with fail
              refine (examples_any _).mono ?_
              rintro e w3 ⟨rfl, hb3⟩
              have HB3 := Lib.hid hb3
              go_wp2_with fail
              go_ret
              exact ⟨rfl, bwStep (bwStep (bwStep HB1.out hO.out.B) HB2.out) HB3.out⟩
            · have z3 : decide (x < 0) = false := by simpa using hx0
              have hx2 : (S : Int) ≤ x := by
                rw [Bool.and_eq_false_iff, decide_eq_false_iff_not, decide_eq_false_iff_not] at hI
                omega
              have z4 : decide ((S : Int) ≤ x) = true := by simpa using hx2
              clear hI hx0
              go_wp2_with fail
              refine (pEval_any C S P x ⟨A, n, ca, zl a⟩ _ hp (HQ1.out.below hO.out.B)).mono ?_
              rintro e w2 ⟨rfl, hb2⟩
              rw [HEV.out]
              have HB2 := Lib.hid hb2
              clear hb2 f0 f1 f2
              obtain ⟨f0, f1, f2⟩ := fldC_cells (HX1.out.below (hO.out.below HB2.out).B)
              go_wp2_with fail
              refine (examples_any _).mono ?_
              rintro e w3 ⟨rfl, hb3⟩
              have HB3 := Lib.hid hb3
              go_wp2_with fail
              go_ret
              exact ⟨rfl, bwStep (bwStep (bwStep HB1.out hO.out.B) HB2.out) HB3.out⟩
        · obtain rfl : k = m := by omega
          have HIR := Lib.hid (HRES.out hid.out)
          have HVN : Hid ((valsL S P a ys k).length = k) := rgL_length _ k
          obtain ⟨A1, n1, c1, rfl, hq1⟩ := hO.out.ints.parts
          have hn1 : n1 = k := hq1.hn.trans ((zl_length _).trans HVN.out)
          subst hn1
          have HQ5 := Lib.hid hq1
          clear hq1
          obtain ⟨f0, f1, f2⟩ := fldC_cells (HX1.out.below hO.out.B)
          go_wp2_with fail
          refine (pInterp_n C S P B n1 cb ys A1 n1 c1 _ _ hp (HR1.out.below hO.out.B) HQ5.out (by omega) (by omega)).mono ?_
          rintro e w2 ⟨v2, rfl, hI2, hb2⟩
          rw [HIR.out] at hI2 ⊢
          have HB2 := Lib.hid hb2
          have HI2 := Lib.hid hI2
          clear hI2 hb2 f0 f1 f2
          by_cases hd : ys.Nodup
          · have HI3 : Hid (Ints w2 v2 (zl a)) := by have := HI2.out; rw [if_pos hd] at this; exact this
            rw [show (if ys.Nodup then zl a else [], if ys.Nodup then (0 : Int) else 30).2 = 0 from if_pos hd]
            clear hd HI2
            go_wp2_with fail
            refine (same_v (zl a) (zl a) _ v2 _ ((HQ1.out.below hO.out.B).below HB2.out).ints HI3.out).mono ?_
            rintro e w3 ⟨rfl, hb3⟩
            rw [show decide (zl a = zl a) = true from by simp]
            go_wp2_with fail
            refine (examples_any _).mono ?_
            rintro e w4 ⟨rfl, hb4⟩
            go_wp2_with fail
            go_ret
            exact ⟨rfl, bwStep (bwStep (bwStep (bwStep HB1.out hO.out.B) HB2.out) hb3) hb4⟩
          · rw [show (if ys.Nodup then zl a else [], if ys.Nodup then (0 : Int) else 30).2 = 30 from if_neg hd]
            clear hd HI2
            go_wp2_with fail
            refine (examples_any _).mono ?_
            rintro e w4 ⟨rfl, hb4⟩
            go_wp2_with fail
            go_ret
            exact ⟨rfl, bwStep (bwStep (bwStep HB1.out hO.out.B) HB2.out) hb4⟩
end Go.Proofs.Ythpcneeidhmdkaa.polynomialRestores
namespace Go.Proofs.Ythpcneeidhmdkaa.polynomialRestores
open Go.ChangeShapes Go.WideShapes Go.ChangeAt Go.RowKit
set_option linter.unusedVariables false
theorem k0 : Rows.polynomialRestoresRow.wf (OpenSpec.ofChange Rows.polynomialRestoresSpec) = true := by kernel_rfl
theorem k3 : Try.f5.params.all (Try.prog.readableRec ·) = true := by kernel_rfl
theorem k4 : namedTie Try.prog Rows.polynomialRestoresRow.named Rows.polynomialRestoresSpec.vars = true := by kernel_rfl
theorem k5 : (Rows.polynomialRestoresRow.stops == []) = true := by kernel_rfl
theorem k7 : (Rows.polynomialRestoresRow.knobs == []) = true := by kernel_rfl
theorem k9 : (Rows.polynomialRestoresRow.inPlace == Try.prog.inPlace 5) = true := by kernel_rfl
theorem k10 : (Rows.polynomialRestoresRow.unfollowed == Try.prog.unfollowed 5) = true := by kernel_rfl
theorem k11 : (Rows.polynomialRestoresRow.recurses == Try.prog.recurses 5) = true := by kernel_rfl
theorem k12 : (Rows.polynomialRestoresRow.named == Try.prog.varsNamed 5) = true := by kernel_rfl
theorem k13 : (Rows.polynomialRestoresRow.maps == (Try.f5.params.toList ++ Rows.polynomialRestoresSpec.plain.varTypes Try.prog).any (Try.prog.mapsRec ·)) = true := by kernel_rfl
theorem k14 : (Rows.polynomialRestoresRow.ifaces == (Try.f5.params.toList ++ Rows.polynomialRestoresSpec.plain.varTypes Try.prog).any (Try.prog.ifacesRec ·)) = true := by kernel_rfl
theorem k15 : (Rows.polynomialRestoresRow.mapsOut == Try.prog.mapsAmong Try.f5.resultTypes.toList) = true := by kernel_rfl
theorem k16 : (Rows.polynomialRestoresRow.loops == (Try.f5.params.toList ++ Rows.polynomialRestoresSpec.plain.varTypes Try.prog).any (Try.prog.loopsFrom ·)) = true := by kernel_rfl
theorem k17 : (Rows.polynomialRestoresRow.wideKeys == (Try.f5.params.toList ++ Rows.polynomialRestoresSpec.plain.varTypes Try.prog ++ Try.f5.resultTypes.toList).any (Try.prog.wideKeysFrom ·)) = true := by kernel_rfl
theorem k18 : Rows.polynomialRestoresSpec.vars.all (Try.prog.varReadable ·) = true := by kernel_rfl
theorem k19 : Try.f5.resultTypes.all (fun t => Try.prog.readableRec t && decide (t < Try.prog.types.size)) = true := by kernel_rfl
theorem k20 : (Rows.polynomialRestoresRow.ifacesOut == Try.f5.resultTypes.toList.any (Try.prog.ifacesRec ·)) = true := by kernel_rfl
theorem k21 : (Rows.polynomialRestoresRow.loopsOut == Try.f5.resultTypes.toList.any (Try.prog.loopsFrom ·)) = true := by kernel_rfl
theorem k22 : (Rows.polynomialRestoresRow.plainKeys == Try.prog.plainKeys) = true := by kernel_rfl
theorem k23 : Rows.polynomialRestoresRow.shortTexts.isNone = true := by kernel_rfl
theorem k26 : (Rows.polynomialRestoresRow.lifted == Try.prog.liftsFinal) = true := by kernel_rfl
theorem k27 : (Try.prog.make == some Rows.polynomialRestoresRow.make) = true := by kernel_rfl
theorem k28 : (Rows.polynomialRestoresRow.kinds == (if Rows.polynomialRestoresRow.domain.isEmpty then [] else Try.f5.params.toList.map fun t => match Try.prog.underlying t with | some (.int k) => some k | _ => none)) = true := by kernel_rfl
theorem k29 : (Rows.polynomialRestoresRow.pinned == Rows.polynomialRestoresRow.pinnedBy) = true := by kernel_rfl
theorem k30 : (Rows.polynomialRestoresRow.veiled == (Try.f5.params.toList ++ Rows.polynomialRestoresSpec.plain.varTypes Try.prog ++ Try.f5.resultTypes.toList).any (Try.prog.veiledRec ·)) = true := by kernel_rfl
theorem k31 : Rows.polynomialRestoresRow.veiledFits Try.prog Try.f5.params.toList (Try.f5.params.toList ++ Rows.polynomialRestoresSpec.plain.varTypes Try.prog ++ Try.f5.resultTypes.toList) = true := by kernel_rfl
theorem closedK : joinedFacts Try.prog 5 Try.f5 Rows.polynomialRestoresSpec Rows.polynomialRestoresRow = true := and_tt (and_tt (and_tt (and_tt (and_tt (and_tt (and_tt (and_tt (and_tt (and_tt (and_tt (and_tt (and_tt (and_tt (and_tt (and_tt (and_tt (and_tt (and_tt (and_tt (and_tt (and_tt (and_tt (and_tt (and_tt (and_tt (and_tt (and_tt (and_tt (and_tt (and_tt k0 fp_laid) fp_mapsRowed) k3) k4) k5) fp_stops) k7) fp_stopKnobs) k9) k10) k11) k12) k13) k14) k15) k16) k17) k18) k19) k20) k21) k22) k23) fp_stopsHeard) fp_mayEnter) k26) k27) k28) k29) k30) k31

theorem ownK : ownKnob Try.prog.godebug = none := by kernel_rfl
theorem laidK : laidOutB Try.prog = true := by kernel_rfl
set_option maxRecDepth 100000 in
theorem lifted (os : Os) (started : os.Started) (H : Type) (enc : TypeId × Value → H) :
    ReturnsInHanded {} Try.checked os 5 .any (Rows.polynomialRestoresSpec.pre6 enc Try.prog Try.f5 Rows.polynomialRestoresRow.domain false) (Rows.polynomialRestoresSpec.post enc Try.prog Try.f5 false true false false) := by
  refine returnsInHanded_of_change (C := Try.checked) ownK started (by kernel_rfl) Try.func5
    (ChangeSpec.witness6 (enc := enc) (C := Try.checked) false ⟨#[], #[.agg #[.int .i64 0, .int .i64 0, .int .i64 0], .slice none 0 0, .slice none 0 0], []⟩ 12 (by kernel_rfl) (by kernel_rfl) (by kernel_rfl) (by kernel_rfl)) ?_
  intro W base args ds gs before hval0 hW hcnd _
  have hval : ∀ (j : Nat) t v, Try.f5.params[j]? = some t → args[j]? = some v → Value.okWide Try.prog W .any base t v := hval0
  have hW' := hW
  obtain ⟨p, q, hA0, hV, rfl, hfz, hnd⟩ := hW
  have hA : DataW.TrodAll enc Try.prog W 0 (fun _ => true) true Try.f5.params.toList args.toList ds p := hA0
  rw [Try.params5] at hA hval
  obtain ⟨v0, vs0, d0, ds0, p0, q0, hargs, rfl, rfl, h0, r0⟩ := trodAll_cons hA
  obtain ⟨v1, vs1, d1, ds1, p1, q1, rfl, rfl, rfl, h1, r1⟩ := trodAll_cons r0
  obtain ⟨v2, vs2, d2, ds2, p2, q2, rfl, rfl, rfl, h2, r2⟩ := trodAll_cons r1
  obtain ⟨rfl, rfl, rfl⟩ := trodAll_nil r2
  obtain rfl : args = #[v0, v1, v2] := by cases args; simp_all
  obtain ⟨rfl, rfl⟩ := trodVars_none hV
  have hrd : ∀ t ∈ Try.f5.params.toList, Try.prog.readableRec t = true ∧ t < Try.prog.types.size := by
    rw [Try.params5]
    intro t ht
    simp only [List.mem_cons, List.not_mem_nil, or_false] at ht
    rcases ht with rfl | rfl | rfl <;> exact ⟨by kernel_rfl, of_decide_eq_true (by kernel_rfl)⟩
  obtain ⟨c, s, p, rfl, bc, bs, bp⟩ := open_fld (hval 0 23 v0 rfl rfl) h0
  obtain ⟨q, rfl, hq⟩ := open_sl (hval 1 24 v1 rfl rfl) h1
  obtain ⟨r, rfl, hr⟩ := open_sl (hval 2 24 v2 rfl rfl) h2
  refine (law_walk c s p q r W bc bs bp hq hr).mono fun e W' ⟨he, hb⟩ => ?_
  subst he
  exact ⟨_, rfl, law_post laidK Try.underlying4 rfl rfl hrd hW' rfl hb⟩
theorem over : Rows.polynomialRestoresRow.holds Try.pinned (OpenSpec.ofChange Rows.polynomialRestoresSpec) :=
  OpenClaim.holds_of_wide 5 Try.f5 rfl rfl rfl rfl rfl rfl rfl ⟨rfl, rfl, rfl, rfl, rfl⟩ rfl rfl rfl rfl rfl (by kernel_rfl) Try.func5 closedK
    (of_decide_eq_true (by kernel_rfl)) (by unfold Func.isWrapper; first | (rw [if_pos (by decide +kernel)]; kernel_rfl) | (rw [if_neg (by decide +kernel)]; exact ⟨rfl, rfl⟩))
    (fun os started H enc _ => lifted os started H enc)
/-- THE STATEMENT -/
theorem proved : Rows.PolynomialRestoresSaid := over
end Go.Proofs.Ythpcneeidhmdkaa.polynomialRestores
