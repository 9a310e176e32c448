/- For every input, the law PolynomialEvaluates of layer 5 (polynomial) answers true and leaves its arguments as they were. No condition. -/
import Derived.Test.YthpcneeidhmdkaaM18
import Derived.Test.YthpcneeidhmdkaaFacts
namespace Go.Proofs.Ythpcneeidhmdkaa.polynomialEvaluates
open Go.RowKit
set_option linter.unusedVariables false
set_option maxRecDepth 100000 in
set_option maxHeartbeats 4000000 in
theorem law_walk (c s p : Int) (q r : Sl) (x : Int) (w : World) (bc : I64 c) (bs : I64 s) (bp : I64 p) (hq : q.R w) (hr : r.R w) (bx : I64 x) :
    Calls Try.prog 8 #[fldv c s p, q.v, r.v, .int .i64 x] w fun e w' => e = .returned (.bool true) ∧ Below w.heap.size w w' := by
  obtain ⟨A, n, ca, xs⟩ := q
  obtain ⟨B, m, cb, ys⟩ := r
  have hp := bp.2
  have hs := bs.2
  have hbx : Below w.heap.size w (w.alloc (fldB c s p)) := (Below.refl _ _).alloc (Nat.le_refl _) _
  have HQ := Lib.hid (hq.below hbx)
  have HR := Lib.hid (hr.below hbx)
  have hnm : n ≤ 9223372036854775807 := hq.hm
  have hmm : m ≤ 9223372036854775807 := hr.hm
  show Calls Try.prog 8 #[fldv c s p, .slice A n ca, .slice B m cb, .int .i64 x] w fun e w' => e = .returned (.bool true) ∧ Below w.heap.size w w'
  have CB : Hid (CellsAt (w.alloc (fldB c s p)) w.heap.size (fldC c s p)) := CellsAt.new _ _ _ _ rfl
  clear hq hr hbx bc bs bp bx
  have hcase : decide ((100 : Int) < (n : Int)) = true ∨ (decide ((100 : Int) < (n : Int)) = false ∧ decide ((100 : Int) < (m : Int)) = true ∧ decide ((m : Int) ≤ 4096) = true) ∨ (decide ((100 : Int) < (n : Int)) = false ∧ decide ((100 : Int) < (m : Int)) = true ∧ decide ((m : Int) ≤ 4096) = false) ∨ (decide ((100 : Int) < (n : Int)) = false ∧ decide ((100 : Int) < (m : Int)) = false) := by
    by_cases h1 : n ≤ 100
    · by_cases h2 : m ≤ 100
      · right; right; right; exact ⟨by simp; omega, by simp; omega⟩
      · by_cases h3 : m ≤ 4096
        · right; left; exact ⟨by simp; omega, by simp; omega, by simp; omega⟩
        · right; right; left; exact ⟨by simp; omega, by simp; omega, by simp; omega⟩
    · left; simp; omega
  have hcase2 : decide ((4096 : Int) < s) = true ∨ (decide ((4096 : Int) < s) = false ∧ s ≤ 4096) := by
    by_cases h : s ≤ 4096
    · right; exact ⟨by simp; omega, h⟩
    · left; simp; omega
  rcases hcase with h1 | ⟨h1, h2, h3⟩ | ⟨h1, h2, h3⟩ | ⟨h1, h2⟩
  · go_enter Try.func8, Try.ntmps8
    go_wp2_with (go_at_call 14; refine (examples_any _).mono ?_; rintro e w1 ⟨rfl, hb1⟩)
    go_ret
    exact ⟨rfl, bw1 hb1⟩
  · go_enter Try.func8, Try.ntmps8
    go_wp2_with (go_at_call 14; refine (examples_any _).mono ?_; rintro e w1 ⟨rfl, hb1⟩)
    go_ret
    exact ⟨rfl, bw1 hb1⟩
  all_goals
    go_enter Try.func8, Try.ntmps8
    go_wp2_with fail
    refine (pEval_any c s p x ⟨A, n, ca, xs⟩ _ hp HQ.out).mono ?_
    rintro e w1 ⟨rfl, hb1⟩
    have HB1 := Lib.hid hb1
    obtain ⟨f0, f1, f2⟩ := fldC_cells (CB.out.below HB1.out)
    clear hb1
    go_wp2_with fail
    refine (rEval_any c s p x ⟨A, n, ca, xs⟩ _ hs hp (HQ.out.below HB1.out)).mono ?_
    rintro e w2 ⟨rfl, hb2⟩
    have HB2 : Hid (Abv (w.alloc (fldB c s p)) w2) := bwStep HB1.out hb2
    clear hb2 f0 f1 f2
    obtain ⟨f0, f1, f2⟩ := fldC_cells (CB.out.below HB2.out)
    go_wp2_with fail
    refine (pFromRoots_any c s p ⟨B, m, cb, ys⟩ _ hp (HR.out.below HB2.out)).mono ?_
    rintro e w3 ⟨v3, rfl, hI3, hb3⟩
    have HB3 : Hid (Abv (w.alloc (fldB c s p)) w3) := bwStep HB2.out hb3
    have HI3 := Lib.hid hI3
    clear hb3 hI3 f0 f1 f2
    obtain ⟨f0, f1, f2⟩ := fldC_cells (CB.out.below HB3.out)
    go_wp2_with fail
    refine (rFromRoots_any c s p ⟨B, m, cb, ys⟩ _ hs hp (HR.out.below HB3.out)).mono ?_
    rintro e w4 ⟨v4, rfl, hI4, hb4⟩
    have HI3' := Lib.hid (HI3.out.below hb4)
    have HB4 : Hid (Abv (w.alloc (fldB c s p)) w4) := bwStep HB3.out hb4
    have HI4 := Lib.hid hI4
    clear hb4 hI4 f0 f1 f2 HI3
    generalize evalRes c s p _ x = R at *
    obtain ⟨v, err⟩ := R
    generalize fromRes c s p _ = R at *
    obtain ⟨L, err2⟩ := R
    go_wp2_with fail
    refine (same_v L L v3 v4 _ HI3'.out HI4.out).mono ?_
    rintro e w5 ⟨rfl, hb5⟩
    rw [show decide (L = L) = true from by simp]
    have HB5 : Hid (Abv (w.alloc (fldB c s p)) w5) := bwStep HB4.out hb5
    clear hb5
    obtain ⟨f0, f1, f2⟩ := fldC_cells (CB.out.below HB5.out)
    rcases hcase2 with h5 | ⟨h5, h6⟩
    · go_wp2_with fail
      refine (examples_any _).mono ?_
      rintro e w6 ⟨rfl, hb6⟩
      go_wp2_with fail
      go_ret
      exact ⟨rfl, bw1 (bwStep HB5.out hb6)⟩
    · have h7 : decide ((20000 : Int) < wrap64 (s * (n : Int))) = true ∨ decide ((20000 : Int) < wrap64 (s * (n : Int))) = false := by
        cases decide ((20000 : Int) < wrap64 (s * (n : Int))) <;> simp
      rcases h7 with h7 | h7
      · go_wp2_with fail
        refine (examples_any _).mono ?_
        rintro e w6 ⟨rfl, hb6⟩
        go_wp2_with fail
        go_ret
        exact ⟨rfl, bw1 (bwStep HB5.out hb6)⟩
      · go_wp2_with fail
        refine (pRoots_any c s p ⟨A, n, ca, xs⟩ _ hp (HQ.out.below HB5.out)).mono ?_
        rintro e w6 ⟨v6, rfl, hI6, hb6⟩
        have HB6 : Hid (Abv (w.alloc (fldB c s p)) w6) := bwStep HB5.out hb6
        have HI6 := Lib.hid hI6
        clear hb6 hI6 f0 f1 f2
        obtain ⟨f0, f1, f2⟩ := fldC_cells (CB.out.below HB6.out)
        go_wp2_with fail
        refine (rRoots_any c s p ⟨A, n, ca, xs⟩ _ hs hp (HQ.out.below HB6.out)).mono ?_
        rintro e w7 ⟨v7, rfl, hI7, hb7⟩
        have HJ6 := Lib.hid (HI6.out.below hb7)
        have HB7 : Hid (Abv (w.alloc (fldB c s p)) w7) := bwStep HB6.out hb7
        have HI7 := Lib.hid hI7
        clear hb7 hI7 f0 f1 f2 HI6
        generalize rootsRes c s p _ = R at *
        obtain ⟨L3, err3⟩ := R
        go_wp2_with fail
        refine (same_v L3 L3 v6 v7 _ HJ6.out HI7.out).mono ?_
        rintro e w8 ⟨rfl, hb8⟩
        rw [show decide (L3 = L3) = true from by simp]
        go_wp2_with fail
        refine (examples_any _).mono ?_
        rintro e w9 ⟨rfl, hb9⟩
        go_wp2_with fail
        go_ret
        exact ⟨rfl, bw1 (bwStep (bwStep HB7.out hb8) hb9)⟩
end Go.Proofs.Ythpcneeidhmdkaa.polynomialEvaluates
namespace Go.Proofs.Ythpcneeidhmdkaa.polynomialEvaluates
open Go.ChangeShapes Go.WideShapes Go.ChangeAt Go.RowKit
set_option linter.unusedVariables false
theorem k0 : Rows.polynomialEvaluatesRow.wf (OpenSpec.ofChange Rows.polynomialEvaluatesSpec) = true := by kernel_rfl
theorem k3 : Try.f8.params.all (Try.prog.readableRec ·) = true := by kernel_rfl
theorem k4 : namedTie Try.prog Rows.polynomialEvaluatesRow.named Rows.polynomialEvaluatesSpec.vars = true := by kernel_rfl
theorem k5 : (Rows.polynomialEvaluatesRow.stops == []) = true := by kernel_rfl
theorem k7 : (Rows.polynomialEvaluatesRow.knobs == []) = true := by kernel_rfl
theorem k9 : (Rows.polynomialEvaluatesRow.inPlace == Try.prog.inPlace 8) = true := by kernel_rfl
theorem k10 : (Rows.polynomialEvaluatesRow.unfollowed == Try.prog.unfollowed 8) = true := by kernel_rfl
theorem k11 : (Rows.polynomialEvaluatesRow.recurses == Try.prog.recurses 8) = true := by kernel_rfl
theorem k12 : (Rows.polynomialEvaluatesRow.named == Try.prog.varsNamed 8) = true := by kernel_rfl
theorem k13 : (Rows.polynomialEvaluatesRow.maps == (Try.f8.params.toList ++ Rows.polynomialEvaluatesSpec.plain.varTypes Try.prog).any (Try.prog.mapsRec ·)) = true := by kernel_rfl
theorem k14 : (Rows.polynomialEvaluatesRow.ifaces == (Try.f8.params.toList ++ Rows.polynomialEvaluatesSpec.plain.varTypes Try.prog).any (Try.prog.ifacesRec ·)) = true := by kernel_rfl
theorem k15 : (Rows.polynomialEvaluatesRow.mapsOut == Try.prog.mapsAmong Try.f8.resultTypes.toList) = true := by kernel_rfl
theorem k16 : (Rows.polynomialEvaluatesRow.loops == (Try.f8.params.toList ++ Rows.polynomialEvaluatesSpec.plain.varTypes Try.prog).any (Try.prog.loopsFrom ·)) = true := by kernel_rfl
theorem k17 : (Rows.polynomialEvaluatesRow.wideKeys == (Try.f8.params.toList ++ Rows.polynomialEvaluatesSpec.plain.varTypes Try.prog ++ Try.f8.resultTypes.toList).any (Try.prog.wideKeysFrom ·)) = true := by kernel_rfl
theorem k18 : Rows.polynomialEvaluatesSpec.vars.all (Try.prog.varReadable ·) = true := by kernel_rfl
theorem k19 : Try.f8.resultTypes.all (fun t => Try.prog.readableRec t && decide (t < Try.prog.types.size)) = true := by kernel_rfl
theorem k20 : (Rows.polynomialEvaluatesRow.ifacesOut == Try.f8.resultTypes.toList.any (Try.prog.ifacesRec ·)) = true := by kernel_rfl
theorem k21 : (Rows.polynomialEvaluatesRow.loopsOut == Try.f8.resultTypes.toList.any (Try.prog.loopsFrom ·)) = true := by kernel_rfl
theorem k22 : (Rows.polynomialEvaluatesRow.plainKeys == Try.prog.plainKeys) = true := by kernel_rfl
theorem k23 : Rows.polynomialEvaluatesRow.shortTexts.isNone = true := by kernel_rfl
theorem k26 : (Rows.polynomialEvaluatesRow.lifted == Try.prog.liftsFinal) = true := by kernel_rfl
theorem k27 : (Try.prog.make == some Rows.polynomialEvaluatesRow.make) = true := by kernel_rfl
theorem k28 : (Rows.polynomialEvaluatesRow.kinds == (if Rows.polynomialEvaluatesRow.domain.isEmpty then [] else Try.f8.params.toList.map fun t => match Try.prog.underlying t with | some (.int k) => some k | _ => none)) = true := by kernel_rfl
theorem k29 : (Rows.polynomialEvaluatesRow.pinned == Rows.polynomialEvaluatesRow.pinnedBy) = true := by kernel_rfl
theorem k30 : (Rows.polynomialEvaluatesRow.veiled == (Try.f8.params.toList ++ Rows.polynomialEvaluatesSpec.plain.varTypes Try.prog ++ Try.f8.resultTypes.toList).any (Try.prog.veiledRec ·)) = true := by kernel_rfl
theorem k31 : Rows.polynomialEvaluatesRow.veiledFits Try.prog Try.f8.params.toList (Try.f8.params.toList ++ Rows.polynomialEvaluatesSpec.plain.varTypes Try.prog ++ Try.f8.resultTypes.toList) = true := by kernel_rfl
theorem closedK : joinedFacts Try.prog 8 Try.f8 Rows.polynomialEvaluatesSpec Rows.polynomialEvaluatesRow = true := and_tt (and_tt (and_tt (and_tt (and_tt (and_tt (and_tt (and_tt (and_tt (and_tt (and_tt (and_tt (and_tt (and_tt (and_tt (and_tt (and_tt (and_tt (and_tt (and_tt (and_tt (and_tt (and_tt (and_tt (and_tt (and_tt (and_tt (and_tt (and_tt (and_tt (and_tt k0 fp_laid) fp_mapsRowed) k3) k4) k5) fp_stops) k7) fp_stopKnobs) k9) k10) k11) k12) k13) k14) k15) k16) k17) k18) k19) k20) k21) k22) k23) fp_stopsHeard) fp_mayEnter) k26) k27) k28) k29) k30) k31

theorem ownK : ownKnob Try.prog.godebug = none := by kernel_rfl
theorem laidK : laidOutB Try.prog = true := by kernel_rfl
set_option maxRecDepth 100000 in
set_option maxHeartbeats 1000000 in
theorem lifted (os : Os) (started : os.Started) (H : Type) (enc : TypeId × Value → H) :
    ReturnsInHanded {} Try.checked os 8 .any (Rows.polynomialEvaluatesSpec.pre6 enc Try.prog Try.f8 Rows.polynomialEvaluatesRow.domain false) (Rows.polynomialEvaluatesSpec.post enc Try.prog Try.f8 false true false false) := by
  refine returnsInHanded_of_change (C := Try.checked) ownK started (by kernel_rfl) Try.func8
    (ChangeSpec.witness6 (enc := enc) (C := Try.checked) false ⟨#[], #[.agg #[.int .i64 0, .int .i64 0, .int .i64 0], .slice none 0 0, .slice none 0 0, .int .i64 0], []⟩ 12 (by kernel_rfl) (by kernel_rfl) (by kernel_rfl) (by kernel_rfl)) ?_
  intro W base args ds gs before hval0 hW hcnd _
  have hval : ∀ (j : Nat) t v, Try.f8.params[j]? = some t → args[j]? = some v → Value.okWide Try.prog W .any base t v := hval0
  have hW' := hW
  obtain ⟨p, q, hA0, hV, rfl, hfz, hnd⟩ := hW
  have hA : DataW.TrodAll enc Try.prog W 0 (fun _ => true) true Try.f8.params.toList args.toList ds p := hA0
  rw [Try.params8] at hA hval
  obtain ⟨v0, vs0, d0, ds0, p0, q0, hargs, rfl, rfl, h0, r0⟩ := trodAll_cons hA
  obtain ⟨v1, vs1, d1, ds1, p1, q1, rfl, rfl, rfl, h1, r1⟩ := trodAll_cons r0
  obtain ⟨v2, vs2, d2, ds2, p2, q2, rfl, rfl, rfl, h2, r2⟩ := trodAll_cons r1
  obtain ⟨v3, vs3, d3, ds3, p3, q3, rfl, rfl, rfl, h3, r3⟩ := trodAll_cons r2
  obtain ⟨rfl, rfl, rfl⟩ := trodAll_nil r3
  obtain rfl : args = #[v0, v1, v2, v3] := by cases args; simp_all
  obtain ⟨rfl, rfl⟩ := trodVars_none hV
  have hrd : ∀ t ∈ Try.f8.params.toList, Try.prog.readableRec t = true ∧ t < Try.prog.types.size := by
    rw [Try.params8]
    intro t ht
    simp only [List.mem_cons, List.not_mem_nil, or_false] at ht
    rcases ht with rfl | rfl | rfl | rfl <;> exact ⟨by kernel_rfl, of_decide_eq_true (by kernel_rfl)⟩
  obtain ⟨c, s, p, rfl, bc, bs, bp⟩ := open_fld (hval 0 23 v0 rfl rfl) h0
  obtain ⟨q, rfl, hq⟩ := open_sl (hval 1 24 v1 rfl rfl) h1
  obtain ⟨r, rfl, hr⟩ := open_sl (hval 2 24 v2 rfl rfl) h2
  obtain ⟨x, rfl, rfl, rfl, wx⟩ := open_int Try.underlying3 (hval 3 3 v3 rfl rfl) h3
  have bx := bd_i64 wx
  refine (law_walk c s p q r x W bc bs bp hq hr bx).mono fun e W' ⟨he, hb⟩ => ?_
  subst he
  exact ⟨_, rfl, law_post laidK Try.underlying4 rfl rfl hrd hW' rfl hb⟩
theorem over : Rows.polynomialEvaluatesRow.holds Try.pinned (OpenSpec.ofChange Rows.polynomialEvaluatesSpec) :=
  OpenClaim.holds_of_wide 8 Try.f8 rfl rfl rfl rfl rfl rfl rfl ⟨rfl, rfl, rfl, rfl, rfl⟩ rfl rfl rfl rfl rfl (by kernel_rfl) Try.func8 closedK
    (of_decide_eq_true (by kernel_rfl)) (by unfold Func.isWrapper; first | (rw [if_pos (by decide +kernel)]; kernel_rfl) | (rw [if_neg (by decide +kernel)]; exact ⟨rfl, rfl⟩))
    (fun os started H enc _ => lifted os started H enc)
/-- THE STATEMENT -/
theorem proved : Rows.PolynomialEvaluatesSaid := over
end Go.Proofs.Ythpcneeidhmdkaa.polynomialEvaluates
