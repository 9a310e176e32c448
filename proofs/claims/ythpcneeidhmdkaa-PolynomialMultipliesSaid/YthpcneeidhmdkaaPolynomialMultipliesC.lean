/- For every input, the law PolynomialMultiplies of layer 5 (polynomial) answers true and leaves its arguments as they were. No condition. -/
import Derived.Test.YthpcneeidhmdkaaM10
import Derived.Test.YthpcneeidhmdkaaFacts
namespace Go.Proofs.Ythpcneeidhmdkaa.polynomialMultiplies
open Go.RowKit
set_option linter.unusedVariables false
set_option maxRecDepth 100000 in
set_option maxHeartbeats 4000000 in
theorem law_walk (c s p : Int) (q r : Sl) (w : World) (bc : I64 c) (bs : I64 s) (bp : I64 p) (hq : q.R w) (hr : r.R w) :
    Calls Try.prog 3 #[fldv c s p, q.v, r.v] w fun e w' => e = .returned (.bool true) ∧ Below w.heap.size w w' := by
  obtain ⟨A, n, ca, xs⟩ := q
  obtain ⟨B, m, cb, ys⟩ := r
  have hp := bp.2
  have hs := bs.2
  have hbx : Below w.heap.size w (w.alloc (fldB c s p)) := (Below.refl _ _).alloc (Nat.le_refl _) _
  have HQ := Lib.hid (hq.below hbx)
  have HR := Lib.hid (hr.below hbx)
  have hnm : n ≤ 9223372036854775807 := hq.hm
  have hmm : m ≤ 9223372036854775807 := hr.hm
  show Calls Try.prog 3 #[fldv c s p, .slice A n ca, .slice B m cb] w fun e w' => e = .returned (.bool true) ∧ Below w.heap.size w w'
  have CB : Hid (CellsAt (w.alloc (fldB c s p)) w.heap.size (fldC c s p)) := CellsAt.new _ _ _ _ rfl
  obtain ⟨T, hT⟩ : ∃ T, T = n * m := ⟨_, rfl⟩
  have hTi : (n : Int) * (m : Int) = (T : Int) := by rw [hT]; exact (Int.natCast_mul n m).symm
  have hTb : n ≤ 5000 → m ≤ 5000 → T ≤ 25000000 := fun h1 h2 => by rw [hT]; exact Nat.mul_le_mul h1 h2
  clear hq hr hbx bc bs bp hT
  have hcase : decide ((n : Int) ≤ 5000) = false ∨ (decide ((n : Int) ≤ 5000) = true ∧ decide ((m : Int) ≤ 5000) = false) ∨
      (decide ((n : Int) ≤ 5000) = true ∧ decide ((m : Int) ≤ 5000) = true ∧ T ≤ 25000000 ∧ n + m ≤ 10000 ∧ decide ((10000 : Int) < (T : Int)) = false) ∨
      (decide ((n : Int) ≤ 5000) = true ∧ decide ((m : Int) ≤ 5000) = true ∧ T ≤ 25000000 ∧ n + m ≤ 10000 ∧ decide ((10000 : Int) < (T : Int)) = true ∧ decide ((n : Int) + (m : Int) ≤ 4098) = false) ∨
      (decide ((n : Int) ≤ 5000) = true ∧ decide ((m : Int) ≤ 5000) = true ∧ T ≤ 25000000 ∧ n + m ≤ 10000 ∧ decide ((10000 : Int) < (T : Int)) = true ∧ decide ((n : Int) + (m : Int) ≤ 4098) = true) := by
    by_cases h1 : n ≤ 5000
    · by_cases h2 : m ≤ 5000
      · have h3 := hTb h1 h2
        by_cases h4 : 10000 < T
        · by_cases h5 : n + m ≤ 4098
          · right; right; right; right; exact ⟨by simp; omega, by simp; omega, h3, by omega, by simp; omega, by simp; omega⟩
          · right; right; right; left; exact ⟨by simp; omega, by simp; omega, h3, by omega, by simp; omega, by simp; omega⟩
        · right; right; left; exact ⟨by simp; omega, by simp; omega, h3, by omega, by simp; omega⟩
      · right; left; exact ⟨by simp; omega, by simp; omega⟩
    · left; simp; omega
  clear hTb
  rcases hcase with h1 | ⟨h1, h2⟩ | ⟨h1, h2, h3, h4, h5⟩ | ⟨h1, h2, h3, h4, h5, h6⟩ | ⟨h1, h2, h3, h4, h5, h6⟩
  case inr.inr.inr.inr =>
    go_enter Try.func3, Try.ntmps3
    go_wp2_with (go_at_call 14; refine (examples_any _).mono ?_; rintro e w1 ⟨rfl, hb1⟩)
    go_ret
    exact ⟨rfl, bw1 hb1⟩
  all_goals
    go_enter Try.func3, Try.ntmps3
    go_wp2_with fail
    refine (pMul_n c s p A n ca xs B m cb ys _ hp HQ.out HR.out).mono ?_
    rintro e w1 ⟨v1, rfl, hI1, hb1⟩
    have HB1 := Lib.hid hb1
    obtain ⟨f0, f1, f2⟩ := fldC_cells (CB.out.below HB1.out)
    have HI1 := Lib.hid hI1
    clear hI1 hb1
    go_wp2_with fail
    refine (rMul_n c s p A n ca xs B m cb ys _ hs hp (HQ.out.below HB1.out) (HR.out.below HB1.out)).mono ?_
    rintro e w2 ⟨v2, rfl, hI2, hb2⟩
    have HB2 := Lib.hid hb2
    have HI2 := Lib.hid hI2
    clear hI2 hb2 f0 f1 f2
    generalize mulRes c s p xs ys = R at *
    obtain ⟨L, err⟩ := R
    go_wp2_with fail
    refine (same_v L L v1 v2 _ (HI1.out.below HB2.out) HI2.out).mono ?_
    rintro e w3 ⟨rfl, hb3⟩
    rw [show decide (L = L) = true from by simp]
    go_wp2_with fail
    refine (examples_any _).mono ?_
    rintro e w4 ⟨rfl, hb4⟩
    go_wp2_with fail
    go_ret
    exact ⟨rfl, bw1 (bwStep (bwStep (bwStep HB1.out HB2.out) hb3) hb4)⟩
end Go.Proofs.Ythpcneeidhmdkaa.polynomialMultiplies
namespace Go.Proofs.Ythpcneeidhmdkaa.polynomialMultiplies
open Go.ChangeShapes Go.WideShapes Go.ChangeAt Go.RowKit
set_option linter.unusedVariables false
theorem k0 : Rows.polynomialMultipliesRow.wf (OpenSpec.ofChange Rows.polynomialMultipliesSpec) = true := by kernel_rfl
theorem k3 : Try.f3.params.all (Try.prog.readableRec ·) = true := by kernel_rfl
theorem k4 : namedTie Try.prog Rows.polynomialMultipliesRow.named Rows.polynomialMultipliesSpec.vars = true := by kernel_rfl
theorem k5 : (Rows.polynomialMultipliesRow.stops == []) = true := by kernel_rfl
theorem k7 : (Rows.polynomialMultipliesRow.knobs == []) = true := by kernel_rfl
theorem k9 : (Rows.polynomialMultipliesRow.inPlace == Try.prog.inPlace 3) = true := by kernel_rfl
theorem k10 : (Rows.polynomialMultipliesRow.unfollowed == Try.prog.unfollowed 3) = true := by kernel_rfl
theorem k11 : (Rows.polynomialMultipliesRow.recurses == Try.prog.recurses 3) = true := by kernel_rfl
theorem k12 : (Rows.polynomialMultipliesRow.named == Try.prog.varsNamed 3) = true := by kernel_rfl
theorem k13 : (Rows.polynomialMultipliesRow.maps == (Try.f3.params.toList ++ Rows.polynomialMultipliesSpec.plain.varTypes Try.prog).any (Try.prog.mapsRec ·)) = true := by kernel_rfl
theorem k14 : (Rows.polynomialMultipliesRow.ifaces == (Try.f3.params.toList ++ Rows.polynomialMultipliesSpec.plain.varTypes Try.prog).any (Try.prog.ifacesRec ·)) = true := by kernel_rfl
theorem k15 : (Rows.polynomialMultipliesRow.mapsOut == Try.prog.mapsAmong Try.f3.resultTypes.toList) = true := by kernel_rfl
theorem k16 : (Rows.polynomialMultipliesRow.loops == (Try.f3.params.toList ++ Rows.polynomialMultipliesSpec.plain.varTypes Try.prog).any (Try.prog.loopsFrom ·)) = true := by kernel_rfl
theorem k17 : (Rows.polynomialMultipliesRow.wideKeys == (Try.f3.params.toList ++ Rows.polynomialMultipliesSpec.plain.varTypes Try.prog ++ Try.f3.resultTypes.toList).any (Try.prog.wideKeysFrom ·)) = true := by kernel_rfl
theorem k18 : Rows.polynomialMultipliesSpec.vars.all (Try.prog.varReadable ·) = true := by kernel_rfl
theorem k19 : Try.f3.resultTypes.all (fun t => Try.prog.readableRec t && decide (t < Try.prog.types.size)) = true := by kernel_rfl
theorem k20 : (Rows.polynomialMultipliesRow.ifacesOut == Try.f3.resultTypes.toList.any (Try.prog.ifacesRec ·)) = true := by kernel_rfl
theorem k21 : (Rows.polynomialMultipliesRow.loopsOut == Try.f3.resultTypes.toList.any (Try.prog.loopsFrom ·)) = true := by kernel_rfl
theorem k22 : (Rows.polynomialMultipliesRow.plainKeys == Try.prog.plainKeys) = true := by kernel_rfl
theorem k23 : Rows.polynomialMultipliesRow.shortTexts.isNone = true := by kernel_rfl
theorem k26 : (Rows.polynomialMultipliesRow.lifted == Try.prog.liftsFinal) = true := by kernel_rfl
theorem k27 : (Try.prog.make == some Rows.polynomialMultipliesRow.make) = true := by kernel_rfl
theorem k28 : (Rows.polynomialMultipliesRow.kinds == (if Rows.polynomialMultipliesRow.domain.isEmpty then [] else Try.f3.params.toList.map fun t => match Try.prog.underlying t with | some (.int k) => some k | _ => none)) = true := by kernel_rfl
theorem k29 : (Rows.polynomialMultipliesRow.pinned == Rows.polynomialMultipliesRow.pinnedBy) = true := by kernel_rfl
theorem k30 : (Rows.polynomialMultipliesRow.veiled == (Try.f3.params.toList ++ Rows.polynomialMultipliesSpec.plain.varTypes Try.prog ++ Try.f3.resultTypes.toList).any (Try.prog.veiledRec ·)) = true := by kernel_rfl
theorem k31 : Rows.polynomialMultipliesRow.veiledFits Try.prog Try.f3.params.toList (Try.f3.params.toList ++ Rows.polynomialMultipliesSpec.plain.varTypes Try.prog ++ Try.f3.resultTypes.toList) = true := by kernel_rfl
theorem closedK : joinedFacts Try.prog 3 Try.f3 Rows.polynomialMultipliesSpec Rows.polynomialMultipliesRow = true := and_tt (and_tt (and_tt (and_tt (and_tt (and_tt (and_tt (and_tt (and_tt (and_tt (and_tt (and_tt (and_tt (and_tt (and_tt (and_tt (and_tt (and_tt (and_tt (and_tt (and_tt (and_tt (and_tt (and_tt (and_tt (and_tt (and_tt (and_tt (and_tt (and_tt (and_tt k0 fp_laid) fp_mapsRowed) k3) k4) k5) fp_stops) k7) fp_stopKnobs) k9) k10) k11) k12) k13) k14) k15) k16) k17) k18) k19) k20) k21) k22) k23) fp_stopsHeard) fp_mayEnter) k26) k27) k28) k29) k30) k31

theorem ownK : ownKnob Try.prog.godebug = none := by kernel_rfl
theorem laidK : laidOutB Try.prog = true := by kernel_rfl
set_option maxRecDepth 100000 in
theorem lifted (os : Os) (started : os.Started) (H : Type) (enc : TypeId × Value → H) :
    ReturnsInHanded {} Try.checked os 3 .any (Rows.polynomialMultipliesSpec.pre6 enc Try.prog Try.f3 Rows.polynomialMultipliesRow.domain false) (Rows.polynomialMultipliesSpec.post enc Try.prog Try.f3 false true false false) := by
  refine returnsInHanded_of_change (C := Try.checked) ownK started (by kernel_rfl) Try.func3
    (ChangeSpec.witness6 (enc := enc) (C := Try.checked) false ⟨#[], #[.agg #[.int .i64 0, .int .i64 0, .int .i64 0], .slice none 0 0, .slice none 0 0], []⟩ 12 (by kernel_rfl) (by kernel_rfl) (by kernel_rfl) (by kernel_rfl)) ?_
  intro W base args ds gs before hval0 hW hcnd _
  have hval : ∀ (j : Nat) t v, Try.f3.params[j]? = some t → args[j]? = some v → Value.okWide Try.prog W .any base t v := hval0
  have hW' := hW
  obtain ⟨p, q, hA0, hV, rfl, hfz, hnd⟩ := hW
  have hA : DataW.TrodAll enc Try.prog W 0 (fun _ => true) true Try.f3.params.toList args.toList ds p := hA0
  rw [Try.params3] at hA hval
  obtain ⟨v0, vs0, d0, ds0, p0, q0, hargs, rfl, rfl, h0, r0⟩ := trodAll_cons hA
  obtain ⟨v1, vs1, d1, ds1, p1, q1, rfl, rfl, rfl, h1, r1⟩ := trodAll_cons r0
  obtain ⟨v2, vs2, d2, ds2, p2, q2, rfl, rfl, rfl, h2, r2⟩ := trodAll_cons r1
  obtain ⟨rfl, rfl, rfl⟩ := trodAll_nil r2
  obtain rfl : args = #[v0, v1, v2] := by cases args; simp_all
  obtain ⟨rfl, rfl⟩ := trodVars_none hV
  have hrd : ∀ t ∈ Try.f3.params.toList, Try.prog.readableRec t = true ∧ t < Try.prog.types.size := by
    rw [Try.params3]
    intro t ht
    simp only [List.mem_cons, List.not_mem_nil, or_false] at ht
    rcases ht with rfl | rfl | rfl <;> exact ⟨by kernel_rfl, of_decide_eq_true (by kernel_rfl)⟩
  obtain ⟨c, s, p, rfl, bc, bs, bp⟩ := open_fld (hval 0 23 v0 rfl rfl) h0
  obtain ⟨q, rfl, hq⟩ := open_sl (hval 1 24 v1 rfl rfl) h1
  obtain ⟨r, rfl, hr⟩ := open_sl (hval 2 24 v2 rfl rfl) h2
  refine (law_walk c s p q r W bc bs bp hq hr).mono fun e W' ⟨he, hb⟩ => ?_
  subst he
  exact ⟨_, rfl, law_post laidK Try.underlying4 rfl rfl hrd hW' rfl hb⟩
theorem over : Rows.polynomialMultipliesRow.holds Try.pinned (OpenSpec.ofChange Rows.polynomialMultipliesSpec) :=
  OpenClaim.holds_of_wide 3 Try.f3 rfl rfl rfl rfl rfl rfl rfl ⟨rfl, rfl, rfl, rfl, rfl⟩ rfl rfl rfl rfl rfl (by kernel_rfl) Try.func3 closedK
    (of_decide_eq_true (by kernel_rfl)) (by unfold Func.isWrapper; first | (rw [if_pos (by decide +kernel)]; kernel_rfl) | (rw [if_neg (by decide +kernel)]; exact ⟨rfl, rfl⟩))
    (fun os started H enc _ => lifted os started H enc)
/-- THE STATEMENT -/
theorem proved : Rows.PolynomialMultipliesSaid := over
end Go.Proofs.Ythpcneeidhmdkaa.polynomialMultiplies
