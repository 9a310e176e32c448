/- For every input, the law GaloisMakes of layer 4 (galois) answers true and leaves its argument as it was. No condition. -/
import Derived.Test.YtefnflmabdpnbaaGaloisMakesW
import Derived.Test.YtefnflmabdpnbaaLawKit
import Derived.Test.YtefnflmabdpnbaaFacts
namespace Go.Proofs.Ytefnflmabdpnbaa.galoisMakes
open Go.ChangeShapes Go.WideShapes Go.ChangeAt Go.RowKit
set_option linter.unusedVariables false
theorem k0 : Rows.galoisMakesRow.wf (OpenSpec.ofChange Rows.galoisMakesSpec) = true := by kernel_rfl
theorem k3 : Try.f3.params.all (Try.prog.readableRec ·) = true := by kernel_rfl
theorem k4 : namedTie Try.prog Rows.galoisMakesRow.named Rows.galoisMakesSpec.vars = true := by kernel_rfl
theorem k5 : (Rows.galoisMakesRow.stops == []) = true := by kernel_rfl
theorem k7 : (Rows.galoisMakesRow.knobs == []) = true := by kernel_rfl
theorem k9 : (Rows.galoisMakesRow.inPlace == Try.prog.inPlace 3) = true := by kernel_rfl
theorem k10 : (Rows.galoisMakesRow.unfollowed == Try.prog.unfollowed 3) = true := by kernel_rfl
theorem k11 : (Rows.galoisMakesRow.recurses == Try.prog.recurses 3) = true := by kernel_rfl
theorem k12 : (Rows.galoisMakesRow.named == Try.prog.varsNamed 3) = true := by kernel_rfl
theorem k13 : (Rows.galoisMakesRow.maps == (Try.f3.params.toList ++ Rows.galoisMakesSpec.plain.varTypes Try.prog).any (Try.prog.mapsRec ·)) = true := by kernel_rfl
theorem k14 : (Rows.galoisMakesRow.ifaces == (Try.f3.params.toList ++ Rows.galoisMakesSpec.plain.varTypes Try.prog).any (Try.prog.ifacesRec ·)) = true := by kernel_rfl
theorem k15 : (Rows.galoisMakesRow.mapsOut == Try.prog.mapsAmong Try.f3.resultTypes.toList) = true := by kernel_rfl
theorem k16 : (Rows.galoisMakesRow.loops == (Try.f3.params.toList ++ Rows.galoisMakesSpec.plain.varTypes Try.prog).any (Try.prog.loopsFrom ·)) = true := by kernel_rfl
theorem k17 : (Rows.galoisMakesRow.wideKeys == (Try.f3.params.toList ++ Rows.galoisMakesSpec.plain.varTypes Try.prog ++ Try.f3.resultTypes.toList).any (Try.prog.wideKeysFrom ·)) = true := by kernel_rfl
theorem k18 : Rows.galoisMakesSpec.vars.all (Try.prog.varReadable ·) = true := by kernel_rfl
theorem k19 : Try.f3.resultTypes.all (fun t => Try.prog.readableRec t && decide (t < Try.prog.types.size)) = true := by kernel_rfl
theorem k20 : (Rows.galoisMakesRow.ifacesOut == Try.f3.resultTypes.toList.any (Try.prog.ifacesRec ·)) = true := by kernel_rfl
theorem k21 : (Rows.galoisMakesRow.loopsOut == Try.f3.resultTypes.toList.any (Try.prog.loopsFrom ·)) = true := by kernel_rfl
theorem k22 : (Rows.galoisMakesRow.plainKeys == Try.prog.plainKeys) = true := by kernel_rfl
theorem k23 : Rows.galoisMakesRow.shortTexts.isNone = true := by kernel_rfl
theorem k26 : (Rows.galoisMakesRow.lifted == Try.prog.liftsFinal) = true := by kernel_rfl
theorem k27 : (Try.prog.make == some Rows.galoisMakesRow.make) = true := by kernel_rfl
theorem k28 : (Rows.galoisMakesRow.kinds == (if Rows.galoisMakesRow.domain.isEmpty then [] else Try.f3.params.toList.map fun t => match Try.prog.underlying t with | some (.int k) => some k | _ => none)) = true := by kernel_rfl
theorem k29 : (Rows.galoisMakesRow.pinned == Rows.galoisMakesRow.pinnedBy) = true := by kernel_rfl
theorem k30 : (Rows.galoisMakesRow.veiled == (Try.f3.params.toList ++ Rows.galoisMakesSpec.plain.varTypes Try.prog ++ Try.f3.resultTypes.toList).any (Try.prog.veiledRec ·)) = true := by kernel_rfl
theorem k31 : Rows.galoisMakesRow.veiledFits Try.prog Try.f3.params.toList (Try.f3.params.toList ++ Rows.galoisMakesSpec.plain.varTypes Try.prog ++ Try.f3.resultTypes.toList) = true := by kernel_rfl
theorem closedK : joinedFacts Try.prog 3 Try.f3 Rows.galoisMakesSpec Rows.galoisMakesRow = true := and_tt (and_tt (and_tt (and_tt (and_tt (and_tt (and_tt (and_tt (and_tt (and_tt (and_tt (and_tt (and_tt (and_tt (and_tt (and_tt (and_tt (and_tt (and_tt (and_tt (and_tt (and_tt (and_tt (and_tt (and_tt (and_tt (and_tt (and_tt (and_tt (and_tt (and_tt k0 fp_laid) fp_mapsRowed) k3) k4) k5) fp_stops) k7) fp_stopKnobs) k9) k10) k11) k12) k13) k14) k15) k16) k17) k18) k19) k20) k21) k22) k23) fp_stopsHeard) fp_mayEnter) k26) k27) k28) k29) k30) k31

theorem ownK : ownKnob Try.prog.godebug = none := by kernel_rfl
theorem laidK : laidOutB Try.prog = true := by kernel_rfl
set_option maxRecDepth 100000 in
theorem lifted (os : Os) (started : os.Started) (H : Type) (enc : TypeId × Value → H) :
    ReturnsInHanded {} Try.checked os 3 .any (Rows.galoisMakesSpec.pre6 enc Try.prog Try.f3 Rows.galoisMakesRow.domain false) (Rows.galoisMakesSpec.post enc Try.prog Try.f3 false true false false) := by
  refine returnsInHanded_of_change (C := Try.checked) ownK started (by kernel_rfl) Try.func3
    (ChangeSpec.witness6 (enc := enc) (C := Try.checked) false ⟨#[], #[.agg #[.int .i64 0, .int .i64 0, .int .i64 0], .int .i64 0, .int .i64 0], []⟩ 12 (by kernel_rfl) (by kernel_rfl) (by kernel_rfl) (by kernel_rfl)) ?_
  intro W base args ds gs before hval0 hW hcnd _
  have hval : ∀ (j : Nat) t v, Try.f3.params[j]? = some t → args[j]? = some v → Value.okWide Try.prog W .any base t v := hval0
  have hW' := hW
  obtain ⟨p, q, hA0, hV, rfl, hfz, hnd⟩ := hW
  have hA : DataW.TrodAll enc Try.prog W 0 (fun _ => true) true Try.f3.params.toList args.toList ds p := hA0
  rw [Try.params3] at hA hval
  obtain ⟨v0, vs0, d0, ds0, p0, q0, hargs, rfl, rfl, h0, r0⟩ := trodAll_cons hA
  obtain ⟨v1, vs1, d1, ds1, p1, q1, rfl, rfl, rfl, h1, r1⟩ := trodAll_cons r0
  obtain ⟨v2, vs2, d2, ds2, p2, q2, rfl, rfl, rfl, h2, r2⟩ := trodAll_cons r1
  obtain ⟨rfl, rfl, rfl⟩ := trodAll_nil r2
  obtain rfl : args = #[v0, v1, v2] := by cases args; simp_all
  obtain ⟨rfl, rfl⟩ := trodVars_none hV
  have hrd : ∀ t ∈ Try.f3.params.toList, Try.prog.readableRec t = true ∧ t < Try.prog.types.size := by
    rw [Try.params3]
    intro t ht
    simp only [List.mem_cons, List.not_mem_nil, or_false] at ht
    rcases ht with rfl | rfl | rfl <;> exact ⟨by kernel_rfl, of_decide_eq_true (by kernel_rfl)⟩
  obtain ⟨c, s, p', rfl, bc, bs, bp⟩ := open_fld (hval 0 23 v0 rfl rfl) h0
  obtain ⟨d, rfl, rfl, rfl, wd⟩ := open_int Try.underlying3 (hval 1 3 v1 rfl rfl) h1
  obtain ⟨q, rfl, rfl, rfl, wq⟩ := open_int Try.underlying3 (hval 2 3 v2 rfl rfl) h2
  refine (law_walk c s p' d q bs bp (bd_i64 wd) (bd_i64 wq) W).mono fun e W' ⟨he, hb⟩ => ?_
  subst he
  exact ⟨_, rfl, law_post laidK Try.underlying4 rfl rfl hrd hW' rfl hb⟩
theorem over : Rows.galoisMakesRow.holds Try.pinned (OpenSpec.ofChange Rows.galoisMakesSpec) :=
  OpenClaim.holds_of_wide 3 Try.f3 rfl rfl rfl rfl rfl rfl rfl ⟨rfl, rfl, rfl, rfl, rfl⟩ rfl rfl rfl rfl rfl (by kernel_rfl) Try.func3 closedK
    (of_decide_eq_true (by kernel_rfl)) (by unfold Func.isWrapper; first | (rw [if_pos (by decide +kernel)]; kernel_rfl) | (rw [if_neg (by decide +kernel)]; exact ⟨rfl, rfl⟩))
    (fun os started H enc _ => lifted os started H enc)
/-- THE STATEMENT -/
theorem proved : Rows.GaloisMakesSaid := over
end Go.Proofs.Ytefnflmabdpnbaa.galoisMakes
