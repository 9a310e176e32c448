/- For every input, the law PolynomialInterpolates of layer 5 (polynomial) answers true and leaves its arguments as they were. No condition. -/
import Derived.Test.YthpcneeidhmdkaaM12
import Derived.Test.YthpcneeidhmdkaaFacts
namespace Go.Proofs.Ythpcneeidhmdkaa.polynomialInterpolates
open Go.RowKit
set_option linter.unusedVariables false
set_option maxRecDepth 100000 in
set_option maxHeartbeats 4000000 in
theorem law_walk (c s p : Int) (q r : Sl) (w : World) (bc : I64 c) (bs : I64 s) (bp : I64 p) (hq : q.R w) (hr : r.R w) :
    Calls Try.prog 4 #[fldv c s p, q.v, r.v] w fun e w' => e = .returned (.bool true) ∧ Below w.heap.size w w' := by
  obtain ⟨A, n, ca, xs⟩ := q
  obtain ⟨B, m, cb, ys⟩ := r
  have hp := bp.2
  have hs := bs.2
  have hbx : Below w.heap.size w (w.alloc (fldB c s p)) := (Below.refl _ _).alloc (Nat.le_refl _) _
  have HQ := Lib.hid (hq.below hbx)
  have HR := Lib.hid (hr.below hbx)
  have hnm : n ≤ 9223372036854775807 := hq.hm
  have hmm : m ≤ 9223372036854775807 := hr.hm
  show Calls Try.prog 4 #[fldv c s p, .slice A n ca, .slice B m cb] w fun e w' => e = .returned (.bool true) ∧ Below w.heap.size w w'
  have CB : Hid (CellsAt (w.alloc (fldB c s p)) w.heap.size (fldC c s p)) := CellsAt.new _ _ _ _ rfl
  clear hq hr hbx bc bs bp
  have hcase : decide ((30 : Int) < (n : Int)) = true ∨ (decide ((30 : Int) < (n : Int)) = false ∧ decide ((30 : Int) < (m : Int)) = true) ∨ (decide ((30 : Int) < (n : Int)) = false ∧ decide ((30 : Int) < (m : Int)) = false ∧ n ≤ 30 ∧ m ≤ 30) := by
    by_cases h1 : n ≤ 30
    · by_cases h2 : m ≤ 30
      · right; right; exact ⟨by simp; omega, by simp; omega, h1, h2⟩
      · right; left; exact ⟨by simp; omega, by simp; omega⟩
    · left; simp; omega
  rcases hcase with h1 | ⟨h1, h2⟩ | ⟨h1, h2, h3, h4⟩
  · go_enter Try.func4, Try.ntmps4
    go_wp2_with (go_at_call 14; refine (examples_any _).mono ?_; rintro e w1 ⟨rfl, hb1⟩)
    go_ret
    exact ⟨rfl, bw1 hb1⟩
  · go_enter Try.func4, Try.ntmps4
    go_wp2_with (go_at_call 14; refine (examples_any _).mono ?_; rintro e w1 ⟨rfl, hb1⟩)
    go_ret
    exact ⟨rfl, bw1 hb1⟩
  · go_enter Try.func4, Try.ntmps4
    go_wp2_with fail
    refine (pInterp_n c s p A n ca xs B m cb ys _ hp HQ.out HR.out (by omega) (by omega)).mono ?_
    rintro e w1 ⟨v1, rfl, hI1, hb1⟩
    have HB1 := Lib.hid hb1
    obtain ⟨f0, f1, f2⟩ := fldC_cells (CB.out.below HB1.out)
    have HI1 := Lib.hid hI1
    clear hI1 hb1
    go_wp2_with fail
    refine (rInterp_n c s p A n ca xs B m cb ys _ hs hp (HQ.out.below HB1.out) (HR.out.below HB1.out) (by omega) (by omega)).mono ?_
    rintro e w2 ⟨v2, rfl, hI2, hb2⟩
    have HB2 := Lib.hid hb2
    have HI2 := Lib.hid hI2
    clear hI2 hb2 f0 f1 f2
    generalize interpRes c s p xs ys = R at *
    obtain ⟨L, err⟩ := R
    go_wp2_with fail
    refine (same_v L L v1 v2 _ (HI1.out.below HB2.out) HI2.out).mono ?_
    rintro e w3 ⟨rfl, hb3⟩
    rw [show decide (L = L) = true from by simp]
    go_wp2_with fail
    refine (examples_any _).mono ?_
    rintro e w4 ⟨rfl, hb4⟩
    go_wp2_with fail
    go_ret
    exact ⟨rfl, bw1 (bwStep (bwStep (bwStep HB1.out HB2.out) hb3) hb4)⟩
end Go.Proofs.Ythpcneeidhmdkaa.polynomialInterpolates
namespace Go.Proofs.Ythpcneeidhmdkaa.polynomialInterpolates
open Go.ChangeShapes Go.WideShapes Go.ChangeAt Go.RowKit
set_option linter.unusedVariables false
theorem k0 : Rows.polynomialInterpolatesRow.wf (OpenSpec.ofChange Rows.polynomialInterpolatesSpec) = true := by kernel_rfl
theorem k3 : Try.f4.params.all (Try.prog.readableRec ·) = true := by kernel_rfl
theorem k4 : namedTie Try.prog Rows.polynomialInterpolatesRow.named Rows.polynomialInterpolatesSpec.vars = true := by kernel_rfl
theorem k5 : (Rows.polynomialInterpolatesRow.stops == []) = true := by kernel_rfl
theorem k7 : (Rows.polynomialInterpolatesRow.knobs == []) = true := by kernel_rfl
theorem k9 : (Rows.polynomialInterpolatesRow.inPlace == Try.prog.inPlace 4) = true := by kernel_rfl
theorem k10 : (Rows.polynomialInterpolatesRow.unfollowed == Try.prog.unfollowed 4) = true := by kernel_rfl
theorem k11 : (Rows.polynomialInterpolatesRow.recurses == Try.prog.recurses 4) = true := by kernel_rfl
theorem k12 : (Rows.polynomialInterpolatesRow.named == Try.prog.varsNamed 4) = true := by kernel_rfl
theorem k13 : (Rows.polynomialInterpolatesRow.maps == (Try.f4.params.toList ++ Rows.polynomialInterpolatesSpec.plain.varTypes Try.prog).any (Try.prog.mapsRec ·)) = true := by kernel_rfl
theorem k14 : (Rows.polynomialInterpolatesRow.ifaces == (Try.f4.params.toList ++ Rows.polynomialInterpolatesSpec.plain.varTypes Try.prog).any (Try.prog.ifacesRec ·)) = true := by kernel_rfl
theorem k15 : (Rows.polynomialInterpolatesRow.mapsOut == Try.prog.mapsAmong Try.f4.resultTypes.toList) = true := by kernel_rfl
theorem k16 : (Rows.polynomialInterpolatesRow.loops == (Try.f4.params.toList ++ Rows.polynomialInterpolatesSpec.plain.varTypes Try.prog).any (Try.prog.loopsFrom ·)) = true := by kernel_rfl
theorem k17 : (Rows.polynomialInterpolatesRow.wideKeys == (Try.f4.params.toList ++ Rows.polynomialInterpolatesSpec.plain.varTypes Try.prog ++ Try.f4.resultTypes.toList).any (Try.prog.wideKeysFrom ·)) = true := by kernel_rfl
theorem k18 : Rows.polynomialInterpolatesSpec.vars.all (Try.prog.varReadable ·) = true := by kernel_rfl
theorem k19 : Try.f4.resultTypes.all (fun t => Try.prog.readableRec t && decide (t < Try.prog.types.size)) = true := by kernel_rfl
theorem k20 : (Rows.polynomialInterpolatesRow.ifacesOut == Try.f4.resultTypes.toList.any (Try.prog.ifacesRec ·)) = true := by kernel_rfl
theorem k21 : (Rows.polynomialInterpolatesRow.loopsOut == Try.f4.resultTypes.toList.any (Try.prog.loopsFrom ·)) = true := by kernel_rfl
theorem k22 : (Rows.polynomialInterpolatesRow.plainKeys == Try.prog.plainKeys) = true := by kernel_rfl
theorem k23 : Rows.polynomialInterpolatesRow.shortTexts.isNone = true := by kernel_rfl
theorem k26 : (Rows.polynomialInterpolatesRow.lifted == Try.prog.liftsFinal) = true := by kernel_rfl
theorem k27 : (Try.prog.make == some Rows.polynomialInterpolatesRow.make) = true := by kernel_rfl
theorem k28 : (Rows.polynomialInterpolatesRow.kinds == (if Rows.polynomialInterpolatesRow.domain.isEmpty then [] else Try.f4.params.toList.map fun t => match Try.prog.underlying t with | some (.int k) => some k | _ => none)) = true := by kernel_rfl
theorem k29 : (Rows.polynomialInterpolatesRow.pinned == Rows.polynomialInterpolatesRow.pinnedBy) = true := by kernel_rfl
theorem k30 : (Rows.polynomialInterpolatesRow.veiled == (Try.f4.params.toList ++ Rows.polynomialInterpolatesSpec.plain.varTypes Try.prog ++ Try.f4.resultTypes.toList).any (Try.prog.veiledRec ·)) = true := by kernel_rfl
theorem k31 : Rows.polynomialInterpolatesRow.veiledFits Try.prog Try.f4.params.toList (Try.f4.params.toList ++ Rows.polynomialInterpolatesSpec.plain.varTypes Try.prog ++ Try.f4.resultTypes.toList) = true := by kernel_rfl
theorem closedK : joinedFacts Try.prog 4 Try.f4 Rows.polynomialInterpolatesSpec Rows.polynomialInterpolatesRow = true := and_tt (and_tt (and_tt (and_tt (and_tt (and_tt (and_tt (and_tt (and_tt (and_tt (and_tt (and_tt (and_tt (and_tt (and_tt (and_tt (and_tt (and_tt (and_tt (and_tt (and_tt (and_tt (and_tt (and_tt (and_tt (and_tt (and_tt (and_tt (and_tt (and_tt (and_tt k0 fp_laid) fp_mapsRowed) k3) k4) k5) fp_stops) k7) fp_stopKnobs) k9) k10) k11) k12) k13) k14) k15) k16) k17) k18) k19) k20) k21) k22) k23) fp_stopsHeard) fp_mayEnter) k26) k27) k28) k29) k30) k31

theorem ownK : ownKnob Try.prog.godebug = none := by kernel_rfl
theorem laidK : laidOutB Try.prog = true := by kernel_rfl
set_option maxRecDepth 100000 in
theorem lifted (os : Os) (started : os.Started) (H : Type) (enc : TypeId × Value → H) :
    ReturnsInHanded {} Try.checked os 4 .any (Rows.polynomialInterpolatesSpec.pre6 enc Try.prog Try.f4 Rows.polynomialInterpolatesRow.domain false) (Rows.polynomialInterpolatesSpec.post enc Try.prog Try.f4 false true false false) := by
  refine returnsInHanded_of_change (C := Try.checked) ownK started (by kernel_rfl) Try.func4
    (ChangeSpec.witness6 (enc := enc) (C := Try.checked) false ⟨#[], #[.agg #[.int .i64 0, .int .i64 0, .int .i64 0], .slice none 0 0, .slice none 0 0], []⟩ 12 (by kernel_rfl) (by kernel_rfl) (by kernel_rfl) (by kernel_rfl)) ?_
  intro W base args ds gs before hval0 hW hcnd _
  have hval : ∀ (j : Nat) t v, Try.f4.params[j]? = some t → args[j]? = some v → Value.okWide Try.prog W .any base t v := hval0
  have hW' := hW
  obtain ⟨p, q, hA0, hV, rfl, hfz, hnd⟩ := hW
  have hA : DataW.TrodAll enc Try.prog W 0 (fun _ => true) true Try.f4.params.toList args.toList ds p := hA0
  rw [Try.params4] at hA hval
  obtain ⟨v0, vs0, d0, ds0, p0, q0, hargs, rfl, rfl, h0, r0⟩ := trodAll_cons hA
  obtain ⟨v1, vs1, d1, ds1, p1, q1, rfl, rfl, rfl, h1, r1⟩ := trodAll_cons r0
  obtain ⟨v2, vs2, d2, ds2, p2, q2, rfl, rfl, rfl, h2, r2⟩ := trodAll_cons r1
  obtain ⟨rfl, rfl, rfl⟩ := trodAll_nil r2
  obtain rfl : args = #[v0, v1, v2] := by cases args; simp_all
  obtain ⟨rfl, rfl⟩ := trodVars_none hV
  have hrd : ∀ t ∈ Try.f4.params.toList, Try.prog.readableRec t = true ∧ t < Try.prog.types.size := by
    rw [Try.params4]
    intro t ht
    simp only [List.mem_cons, List.not_mem_nil, or_false] at ht
    rcases ht with rfl | rfl | rfl <;> exact ⟨by kernel_rfl, of_decide_eq_true (by kernel_rfl)⟩
  obtain ⟨c, s, p, rfl, bc, bs, bp⟩ := open_fld (hval 0 23 v0 rfl rfl) h0
  obtain ⟨q, rfl, hq⟩ := open_sl (hval 1 24 v1 rfl rfl) h1
  obtain ⟨r, rfl, hr⟩ := open_sl (hval 2 24 v2 rfl rfl) h2
  refine (law_walk c s p q r W bc bs bp hq hr).mono fun e W' ⟨he, hb⟩ => ?_
  subst he
  exact ⟨_, rfl, law_post laidK Try.underlying4 rfl rfl hrd hW' rfl hb⟩
theorem over : Rows.polynomialInterpolatesRow.holds Try.pinned (OpenSpec.ofChange Rows.polynomialInterpolatesSpec) :=
  OpenClaim.holds_of_wide 4 Try.f4 rfl rfl rfl rfl rfl rfl rfl ⟨rfl, rfl, rfl, rfl, rfl⟩ rfl rfl rfl rfl rfl (by kernel_rfl) Try.func4 closedK
    (of_decide_eq_true (by kernel_rfl)) (by unfold Func.isWrapper; first | (rw [if_pos (by decide +kernel)]; kernel_rfl) | (rw [if_neg (by decide +kernel)]; exact ⟨rfl, rfl⟩))
    (fun os started H enc _ => lifted os started H enc)
/-- THE STATEMENT -/
theorem proved : Rows.PolynomialInterpolatesSaid := over
end Go.Proofs.Ythpcneeidhmdkaa.polynomialInterpolates
