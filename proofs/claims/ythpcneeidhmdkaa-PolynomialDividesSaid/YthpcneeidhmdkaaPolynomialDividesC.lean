/- For every input, the law PolynomialDivides of layer 5 (polynomial) answers true and leaves its arguments as they were. No condition. -/
import Derived.Test.YthpcneeidhmdkaaM21
import Derived.Test.YthpcneeidhmdkaaFacts
namespace Go.Proofs.Ythpcneeidhmdkaa.polynomialDivides
open Go.RowKit
set_option linter.unusedVariables false
set_option maxRecDepth 100000 in
set_option maxHeartbeats 4000000 in
theorem law_walk (c s p : Int) (q r : Sl) (w : World) (bc : I64 c) (bs : I64 s) (bp : I64 p) (hq : q.R w) (hr : r.R w) :
    Calls Try.prog 6 #[fldv c s p, q.v, r.v] w fun e w' => e = .returned (.bool true) ∧ Below w.heap.size w w' := by
  obtain ⟨A, n, ca, xs⟩ := q
  obtain ⟨B, m, cb, ys⟩ := r
  have hp := bp.2
  have hs := bs.2
  have hbx : Below w.heap.size w (w.alloc (fldB c s p)) := (Below.refl _ _).alloc (Nat.le_refl _) _
  have HQ := Lib.hid (hq.below hbx)
  have HR := Lib.hid (hr.below hbx)
  have hnm : n ≤ 9223372036854775807 := hq.hm
  have hmm : m ≤ 9223372036854775807 := hr.hm
  show Calls Try.prog 6 #[fldv c s p, .slice A n ca, .slice B m cb] w fun e w' => e = .returned (.bool true) ∧ Below w.heap.size w w'
  have CB : Hid (CellsAt (w.alloc (fldB c s p)) w.heap.size (fldC c s p)) := CellsAt.new _ _ _ _ rfl
  clear hq hr hbx bc bs bp
  have hcase : decide ((100 : Int) < (n : Int)) = true ∨ (decide ((100 : Int) < (n : Int)) = false ∧ decide ((100 : Int) < (m : Int)) = true) ∨ (decide ((100 : Int) < (n : Int)) = false ∧ decide ((100 : Int) < (m : Int)) = false) := by
    by_cases h1 : n ≤ 100
    · by_cases h2 : m ≤ 100
      · right; right; exact ⟨by simp; omega, by simp; omega⟩
      · right; left; exact ⟨by simp; omega, by simp; omega⟩
    · left; simp; omega
  rcases hcase with h1 | ⟨h1, h2⟩ | ⟨h1, h2⟩
  · go_enter Try.func6, Try.ntmps6
    go_wp2_with (go_at_call 14; refine (examples_any _).mono ?_; rintro e w1 ⟨rfl, hb1⟩)
    go_ret
    exact ⟨rfl, bw1 hb1⟩
  · go_enter Try.func6, Try.ntmps6
    go_wp2_with (go_at_call 14; refine (examples_any _).mono ?_; rintro e w1 ⟨rfl, hb1⟩)
    go_ret
    exact ⟨rfl, bw1 hb1⟩
  · go_enter Try.func6, Try.ntmps6
    go_wp2_with fail
    refine (pDivMod_any c s p ⟨A, n, ca, xs⟩ ⟨B, m, cb, ys⟩ _ hp HQ.out HR.out).mono ?_
    rintro e w1 ⟨v1, u1, rfl, hI1, hJ1, hb1⟩
    have HB1 := Lib.hid hb1
    have HI1 := Lib.hid hI1
    have HJ1 := Lib.hid hJ1
    obtain ⟨f0, f1, f2⟩ := fldC_cells (CB.out.below HB1.out)
    clear hI1 hJ1 hb1
    go_wp2_with fail
    refine (rDivMod_any c s p ⟨A, n, ca, xs⟩ ⟨B, m, cb, ys⟩ _ hs hp (HQ.out.below HB1.out) (HR.out.below HB1.out)).mono ?_
    rintro e w2 ⟨v2, u2, rfl, hI2, hJ2, hb2⟩
    have HB2 : Hid (Abv (w.alloc (fldB c s p)) w2) := bwStep HB1.out hb2
    have HI1' := Lib.hid (HI1.out.below hb2)
    have HJ1' := Lib.hid (HJ1.out.below hb2)
    have HI2 := Lib.hid hI2
    have HJ2 := Lib.hid hJ2
    clear hI2 hJ2 hb2 f0 f1 f2 HI1 HJ1
    obtain ⟨f0, f1, f2⟩ := fldC_cells (CB.out.below HB2.out)
    generalize divRes c s p _ _ = R at *
    obtain ⟨L, M, err⟩ := R
    go_wp2_with fail
    refine (pGCD_any c s p ⟨A, n, ca, xs⟩ ⟨B, m, cb, ys⟩ _ hp (HQ.out.below HB2.out) (HR.out.below HB2.out)).mono ?_
    rintro e w3 ⟨v3, rfl, hI3, hb3⟩
    have HB3 : Hid (Abv (w.alloc (fldB c s p)) w3) := bwStep HB2.out hb3
    have HC3 : Hid (Abv w2 w3) := hb3
    have HI3 := Lib.hid hI3
    clear hI3 hb3 f0 f1 f2
    obtain ⟨f0, f1, f2⟩ := fldC_cells (CB.out.below HB3.out)
    go_wp2_with fail
    refine (rGCD_any c s p ⟨A, n, ca, xs⟩ ⟨B, m, cb, ys⟩ _ hs hp (HQ.out.below HB3.out) (HR.out.below HB3.out)).mono ?_
    rintro e w4 ⟨v4, rfl, hI4, hb4⟩
    have HB4 : Hid (Abv (w.alloc (fldB c s p)) w4) := bwStep HB3.out hb4
    have HC4 : Hid (Abv w2 w4) := bwStep HC3.out hb4
    have HI3' := Lib.hid (HI3.out.below hb4)
    have HI4 := Lib.hid hI4
    clear hI4 hb4 f0 f1 f2 HI3
    generalize gcdRes c s p _ _ = R at *
    obtain ⟨L2, err2⟩ := R
    go_wp2_with fail
    refine (same_v L L v1 v2 _ (HI1'.out.below HC4.out) (HI2.out.below HC4.out)).mono ?_
    rintro e w5 ⟨rfl, hb5⟩
    rw [show decide (L = L) = true from by simp]
    have HB5 := Lib.hid hb5
    clear hb5
    go_wp2_with fail
    refine (same_v M M u1 u2 _ (HJ1'.out.below (bwStep HC4.out HB5.out)) (HJ2.out.below (bwStep HC4.out HB5.out))).mono ?_
    rintro e w6 ⟨rfl, hb6⟩
    rw [show decide (M = M) = true from by simp]
    have HB6 : Hid (Abv w4 w6) := bwStep HB5.out hb6
    clear hb6
    go_wp2_with fail
    refine (same_v L2 L2 v3 v4 _ (HI3'.out.below HB6.out) (HI4.out.below HB6.out)).mono ?_
    rintro e w7 ⟨rfl, hb7⟩
    rw [show decide (L2 = L2) = true from by simp]
    have HB7 : Hid (Abv w4 w7) := bwStep HB6.out hb7
    clear hb7
    go_wp2_with fail
    refine (examples_any _).mono ?_
    rintro e w8 ⟨rfl, hb8⟩
    go_wp2_with fail
    go_ret
    exact ⟨rfl, bw1 (bwStep HB4.out (bwStep HB7.out hb8))⟩
end Go.Proofs.Ythpcneeidhmdkaa.polynomialDivides
namespace Go.Proofs.Ythpcneeidhmdkaa.polynomialDivides
open Go.ChangeShapes Go.WideShapes Go.ChangeAt Go.RowKit
set_option linter.unusedVariables false
theorem k0 : Rows.polynomialDividesRow.wf (OpenSpec.ofChange Rows.polynomialDividesSpec) = true := by kernel_rfl
theorem k3 : Try.f6.params.all (Try.prog.readableRec ·) = true := by kernel_rfl
theorem k4 : namedTie Try.prog Rows.polynomialDividesRow.named Rows.polynomialDividesSpec.vars = true := by kernel_rfl
theorem k5 : (Rows.polynomialDividesRow.stops == []) = true := by kernel_rfl
theorem k7 : (Rows.polynomialDividesRow.knobs == []) = true := by kernel_rfl
theorem k9 : (Rows.polynomialDividesRow.inPlace == Try.prog.inPlace 6) = true := by kernel_rfl
theorem k10 : (Rows.polynomialDividesRow.unfollowed == Try.prog.unfollowed 6) = true := by kernel_rfl
theorem k11 : (Rows.polynomialDividesRow.recurses == Try.prog.recurses 6) = true := by kernel_rfl
theorem k12 : (Rows.polynomialDividesRow.named == Try.prog.varsNamed 6) = true := by kernel_rfl
theorem k13 : (Rows.polynomialDividesRow.maps == (Try.f6.params.toList ++ Rows.polynomialDividesSpec.plain.varTypes Try.prog).any (Try.prog.mapsRec ·)) = true := by kernel_rfl
theorem k14 : (Rows.polynomialDividesRow.ifaces == (Try.f6.params.toList ++ Rows.polynomialDividesSpec.plain.varTypes Try.prog).any (Try.prog.ifacesRec ·)) = true := by kernel_rfl
theorem k15 : (Rows.polynomialDividesRow.mapsOut == Try.prog.mapsAmong Try.f6.resultTypes.toList) = true := by kernel_rfl
theorem k16 : (Rows.polynomialDividesRow.loops == (Try.f6.params.toList ++ Rows.polynomialDividesSpec.plain.varTypes Try.prog).any (Try.prog.loopsFrom ·)) = true := by kernel_rfl
theorem k17 : (Rows.polynomialDividesRow.wideKeys == (Try.f6.params.toList ++ Rows.polynomialDividesSpec.plain.varTypes Try.prog ++ Try.f6.resultTypes.toList).any (Try.prog.wideKeysFrom ·)) = true := by kernel_rfl
theorem k18 : Rows.polynomialDividesSpec.vars.all (Try.prog.varReadable ·) = true := by kernel_rfl
theorem k19 : Try.f6.resultTypes.all (fun t => Try.prog.readableRec t && decide (t < Try.prog.types.size)) = true := by kernel_rfl
theorem k20 : (Rows.polynomialDividesRow.ifacesOut == Try.f6.resultTypes.toList.any (Try.prog.ifacesRec ·)) = true := by kernel_rfl
theorem k21 : (Rows.polynomialDividesRow.loopsOut == Try.f6.resultTypes.toList.any (Try.prog.loopsFrom ·)) = true := by kernel_rfl
theorem k22 : (Rows.polynomialDividesRow.plainKeys == Try.prog.plainKeys) = true := by kernel_rfl
theorem k23 : Rows.polynomialDividesRow.shortTexts.isNone = true := by kernel_rfl
theorem k26 : (Rows.polynomialDividesRow.lifted == Try.prog.liftsFinal) = true := by kernel_rfl
theorem k27 : (Try.prog.make == some Rows.polynomialDividesRow.make) = true := by kernel_rfl
theorem k28 : (Rows.polynomialDividesRow.kinds == (if Rows.polynomialDividesRow.domain.isEmpty then [] else Try.f6.params.toList.map fun t => match Try.prog.underlying t with | some (.int k) => some k | _ => none)) = true := by kernel_rfl
theorem k29 : (Rows.polynomialDividesRow.pinned == Rows.polynomialDividesRow.pinnedBy) = true := by kernel_rfl
theorem k30 : (Rows.polynomialDividesRow.veiled == (Try.f6.params.toList ++ Rows.polynomialDividesSpec.plain.varTypes Try.prog ++ Try.f6.resultTypes.toList).any (Try.prog.veiledRec ·)) = true := by kernel_rfl
theorem k31 : Rows.polynomialDividesRow.veiledFits Try.prog Try.f6.params.toList (Try.f6.params.toList ++ Rows.polynomialDividesSpec.plain.varTypes Try.prog ++ Try.f6.resultTypes.toList) = true := by kernel_rfl
theorem closedK : joinedFacts Try.prog 6 Try.f6 Rows.polynomialDividesSpec Rows.polynomialDividesRow = true := and_tt (and_tt (and_tt (and_tt (and_tt (and_tt (and_tt (and_tt (and_tt (and_tt (and_tt (and_tt (and_tt (and_tt (and_tt (and_tt (and_tt (and_tt (and_tt (and_tt (and_tt (and_tt (and_tt (and_tt (and_tt (and_tt (and_tt (and_tt (and_tt (and_tt (and_tt k0 fp_laid) fp_mapsRowed) k3) k4) k5) fp_stops) k7) fp_stopKnobs) k9) k10) k11) k12) k13) k14) k15) k16) k17) k18) k19) k20) k21) k22) k23) fp_stopsHeard) fp_mayEnter) k26) k27) k28) k29) k30) k31

theorem ownK : ownKnob Try.prog.godebug = none := by kernel_rfl
theorem laidK : laidOutB Try.prog = true := by kernel_rfl
set_option maxRecDepth 100000 in
theorem lifted (os : Os) (started : os.Started) (H : Type) (enc : TypeId × Value → H) :
    ReturnsInHanded {} Try.checked os 6 .any (Rows.polynomialDividesSpec.pre6 enc Try.prog Try.f6 Rows.polynomialDividesRow.domain false) (Rows.polynomialDividesSpec.post enc Try.prog Try.f6 false true false false) := by
  refine returnsInHanded_of_change (C := Try.checked) ownK started (by kernel_rfl) Try.func6
    (ChangeSpec.witness6 (enc := enc) (C := Try.checked) false ⟨#[], #[.agg #[.int .i64 0, .int .i64 0, .int .i64 0], .slice none 0 0, .slice none 0 0], []⟩ 12 (by kernel_rfl) (by kernel_rfl) (by kernel_rfl) (by kernel_rfl)) ?_
  intro W base args ds gs before hval0 hW hcnd _
  have hval : ∀ (j : Nat) t v, Try.f6.params[j]? = some t → args[j]? = some v → Value.okWide Try.prog W .any base t v := hval0
  have hW' := hW
  obtain ⟨p, q, hA0, hV, rfl, hfz, hnd⟩ := hW
  have hA : DataW.TrodAll enc Try.prog W 0 (fun _ => true) true Try.f6.params.toList args.toList ds p := hA0
  rw [Try.params6] at hA hval
  obtain ⟨v0, vs0, d0, ds0, p0, q0, hargs, rfl, rfl, h0, r0⟩ := trodAll_cons hA
  obtain ⟨v1, vs1, d1, ds1, p1, q1, rfl, rfl, rfl, h1, r1⟩ := trodAll_cons r0
  obtain ⟨v2, vs2, d2, ds2, p2, q2, rfl, rfl, rfl, h2, r2⟩ := trodAll_cons r1
  obtain ⟨rfl, rfl, rfl⟩ := trodAll_nil r2
  obtain rfl : args = #[v0, v1, v2] := by cases args; simp_all
  obtain ⟨rfl, rfl⟩ := trodVars_none hV
  have hrd : ∀ t ∈ Try.f6.params.toList, Try.prog.readableRec t = true ∧ t < Try.prog.types.size := by
    rw [Try.params6]
    intro t ht
    simp only [List.mem_cons, List.not_mem_nil, or_false] at ht
    rcases ht with rfl | rfl | rfl <;> exact ⟨by kernel_rfl, of_decide_eq_true (by kernel_rfl)⟩
  obtain ⟨c, s, p, rfl, bc, bs, bp⟩ := open_fld (hval 0 23 v0 rfl rfl) h0
  obtain ⟨q, rfl, hq⟩ := open_sl (hval 1 24 v1 rfl rfl) h1
  obtain ⟨r, rfl, hr⟩ := open_sl (hval 2 24 v2 rfl rfl) h2
  refine (law_walk c s p q r W bc bs bp hq hr).mono fun e W' ⟨he, hb⟩ => ?_
  subst he
  exact ⟨_, rfl, law_post laidK Try.underlying4 rfl rfl hrd hW' rfl hb⟩
theorem over : Rows.polynomialDividesRow.holds Try.pinned (OpenSpec.ofChange Rows.polynomialDividesSpec) :=
  OpenClaim.holds_of_wide 6 Try.f6 rfl rfl rfl rfl rfl rfl rfl ⟨rfl, rfl, rfl, rfl, rfl⟩ rfl rfl rfl rfl rfl (by kernel_rfl) Try.func6 closedK
    (of_decide_eq_true (by kernel_rfl)) (by unfold Func.isWrapper; first | (rw [if_pos (by decide +kernel)]; kernel_rfl) | (rw [if_neg (by decide +kernel)]; exact ⟨rfl, rfl⟩))
    (fun os started H enc _ => lifted os started H enc)
/-- THE STATEMENT -/
theorem proved : Rows.PolynomialDividesSaid := over
end Go.Proofs.Ythpcneeidhmdkaa.polynomialDivides
