/- For every input, the law GaloisField of layer 4 (galois) answers true and leaves its argument as it was. No condition. -/
import Derived.Test.YtefnflmabdpnbaaGaloisFieldW
import Derived.Test.YtefnflmabdpnbaaLawKit2
import Derived.Test.YtefnflmabdpnbaaFacts
namespace Go.Proofs.Ytefnflmabdpnbaa.galoisField
open Go.ChangeShapes Go.WideShapes Go.ChangeAt Go.RowKit
set_option linter.unusedVariables false
theorem k0 : Rows.galoisFieldRow.wf (OpenSpec.ofChange Rows.galoisFieldSpec) = true := by kernel_rfl
theorem k3 : Try.f7.params.all (Try.prog.readableRec ·) = true := by kernel_rfl
theorem k4 : namedTie Try.prog Rows.galoisFieldRow.named Rows.galoisFieldSpec.vars = true := by kernel_rfl
theorem k5 : (Rows.galoisFieldRow.stops == []) = true := by kernel_rfl
theorem k7 : (Rows.galoisFieldRow.knobs == []) = true := by kernel_rfl
theorem k9 : (Rows.galoisFieldRow.inPlace == Try.prog.inPlace 7) = true := by kernel_rfl
theorem k10 : (Rows.galoisFieldRow.unfollowed == Try.prog.unfollowed 7) = true := by kernel_rfl
theorem k11 : (Rows.galoisFieldRow.recurses == Try.prog.recurses 7) = true := by kernel_rfl
theorem k12 : (Rows.galoisFieldRow.named == Try.prog.varsNamed 7) = true := by kernel_rfl
theorem k13 : (Rows.galoisFieldRow.maps == (Try.f7.params.toList ++ Rows.galoisFieldSpec.plain.varTypes Try.prog).any (Try.prog.mapsRec ·)) = true := by kernel_rfl
theorem k14 : (Rows.galoisFieldRow.ifaces == (Try.f7.params.toList ++ Rows.galoisFieldSpec.plain.varTypes Try.prog).any (Try.prog.ifacesRec ·)) = true := by kernel_rfl
theorem k15 : (Rows.galoisFieldRow.mapsOut == Try.prog.mapsAmong Try.f7.resultTypes.toList) = true := by kernel_rfl
theorem k16 : (Rows.galoisFieldRow.loops == (Try.f7.params.toList ++ Rows.galoisFieldSpec.plain.varTypes Try.prog).any (Try.prog.loopsFrom ·)) = true := by kernel_rfl
theorem k17 : (Rows.galoisFieldRow.wideKeys == (Try.f7.params.toList ++ Rows.galoisFieldSpec.plain.varTypes Try.prog ++ Try.f7.resultTypes.toList).any (Try.prog.wideKeysFrom ·)) = true := by kernel_rfl
theorem k18 : Rows.galoisFieldSpec.vars.all (Try.prog.varReadable ·) = true := by kernel_rfl
theorem k19 : Try.f7.resultTypes.all (fun t => Try.prog.readableRec t && decide (t < Try.prog.types.size)) = true := by kernel_rfl
theorem k20 : (Rows.galoisFieldRow.ifacesOut == Try.f7.resultTypes.toList.any (Try.prog.ifacesRec ·)) = true := by kernel_rfl
theorem k21 : (Rows.galoisFieldRow.loopsOut == Try.f7.resultTypes.toList.any (Try.prog.loopsFrom ·)) = true := by kernel_rfl
theorem k22 : (Rows.galoisFieldRow.plainKeys == Try.prog.plainKeys) = true := by kernel_rfl
theorem k23 : Rows.galoisFieldRow.shortTexts.isNone = true := by kernel_rfl
theorem k26 : (Rows.galoisFieldRow.lifted == Try.prog.liftsFinal) = true := by kernel_rfl
theorem k27 : (Try.prog.make == some Rows.galoisFieldRow.make) = true := by kernel_rfl
theorem k28 : (Rows.galoisFieldRow.kinds == (if Rows.galoisFieldRow.domain.isEmpty then [] else Try.f7.params.toList.map fun t => match Try.prog.underlying t with | some (.int k) => some k | _ => none)) = true := by kernel_rfl
theorem k29 : (Rows.galoisFieldRow.pinned == Rows.galoisFieldRow.pinnedBy) = true := by kernel_rfl
theorem k30 : (Rows.galoisFieldRow.veiled == (Try.f7.params.toList ++ Rows.galoisFieldSpec.plain.varTypes Try.prog ++ Try.f7.resultTypes.toList).any (Try.prog.veiledRec ·)) = true := by kernel_rfl
theorem k31 : Rows.galoisFieldRow.veiledFits Try.prog Try.f7.params.toList (Try.f7.params.toList ++ Rows.galoisFieldSpec.plain.varTypes Try.prog ++ Try.f7.resultTypes.toList) = true := by kernel_rfl
theorem closedK : joinedFacts Try.prog 7 Try.f7 Rows.galoisFieldSpec Rows.galoisFieldRow = true := and_tt (and_tt (and_tt (and_tt (and_tt (and_tt (and_tt (and_tt (and_tt (and_tt (and_tt (and_tt (and_tt (and_tt (and_tt (and_tt (and_tt (and_tt (and_tt (and_tt (and_tt (and_tt (and_tt (and_tt (and_tt (and_tt (and_tt (and_tt (and_tt (and_tt (and_tt k0 fp_laid) fp_mapsRowed) k3) k4) k5) fp_stops) k7) fp_stopKnobs) k9) k10) k11) k12) k13) k14) k15) k16) k17) k18) k19) k20) k21) k22) k23) fp_stopsHeard) fp_mayEnter) k26) k27) k28) k29) k30) k31

theorem ownK : ownKnob Try.prog.godebug = none := by kernel_rfl
theorem laidK : laidOutB Try.prog = true := by kernel_rfl
set_option maxRecDepth 100000 in
theorem lifted (os : Os) (started : os.Started) (H : Type) (enc : TypeId × Value → H) :
    ReturnsInHanded {} Try.checked os 7 .any (Rows.galoisFieldSpec.pre6 enc Try.prog Try.f7 Rows.galoisFieldRow.domain false) (Rows.galoisFieldSpec.post enc Try.prog Try.f7 false true false false) := by
  refine returnsInHanded_of_change (C := Try.checked) ownK started (by kernel_rfl) Try.func7
    (ChangeSpec.witness6 (enc := enc) (C := Try.checked) false ⟨#[], #[.agg #[.int .i64 0, .int .i64 0, .int .i64 0], .agg #[.int .i64 0, .int .i64 0], .agg #[.int .i64 0, .int .i64 0]], []⟩ 12 (by kernel_rfl) (by kernel_rfl) (by kernel_rfl) (by kernel_rfl)) ?_
  intro W base args ds gs before hval0 hW hcnd _
  have hval : ∀ (j : Nat) t v, Try.f7.params[j]? = some t → args[j]? = some v → Value.okWide Try.prog W .any base t v := hval0
  have hW' := hW
  obtain ⟨p, q, hA0, hV, rfl, hfz, hnd⟩ := hW
  have hA : DataW.TrodAll enc Try.prog W 0 (fun _ => true) true Try.f7.params.toList args.toList ds p := hA0
  rw [Try.params7] at hA hval
  obtain ⟨v0, vs0, d0, ds0, p0, q0, hargs, rfl, rfl, h0, r0⟩ := trodAll_cons hA
  obtain ⟨v1, vs1, d1, ds1, p1, q1, rfl, rfl, rfl, h1, r1⟩ := trodAll_cons r0
  obtain ⟨v2, vs2, d2, ds2, p2, q2, rfl, rfl, rfl, h2, r2⟩ := trodAll_cons r1
  obtain ⟨rfl, rfl, rfl⟩ := trodAll_nil r2
  obtain rfl : args = #[v0, v1, v2] := by cases args; simp_all
  obtain ⟨rfl, rfl⟩ := trodVars_none hV
  have hrd : ∀ t ∈ Try.f7.params.toList, Try.prog.readableRec t = true ∧ t < Try.prog.types.size := by
    rw [Try.params7]
    intro t ht
    simp only [List.mem_cons, List.not_mem_nil, or_false] at ht
    rcases ht with rfl | rfl | rfl <;> exact ⟨by kernel_rfl, of_decide_eq_true (by kernel_rfl)⟩
  obtain ⟨c, s, p', rfl, bc, bs, bp⟩ := open_fld (hval 0 23 v0 rfl rfl) h0
  obtain ⟨x, y, rfl⟩ := open_arr2 (hval 1 39 v1 rfl rfl) h1
  obtain ⟨z, t, rfl⟩ := open_arr2 (hval 2 39 v2 rfl rfl) h2
  refine (law_walk c s p' x y z t bc bs bp W).mono fun e W' ⟨he, hb⟩ => ?_
  subst he
  exact ⟨_, rfl, law_post laidK Try.underlying4 rfl rfl hrd hW' rfl hb⟩
theorem over : Rows.galoisFieldRow.holds Try.pinned (OpenSpec.ofChange Rows.galoisFieldSpec) :=
  OpenClaim.holds_of_wide 7 Try.f7 rfl rfl rfl rfl rfl rfl rfl ⟨rfl, rfl, rfl, rfl, rfl⟩ rfl rfl rfl rfl rfl (by kernel_rfl) Try.func7 closedK
    (of_decide_eq_true (by kernel_rfl)) (by unfold Func.isWrapper; first | (rw [if_pos (by decide +kernel)]; kernel_rfl) | (rw [if_neg (by decide +kernel)]; exact ⟨rfl, rfl⟩))
    (fun os started H enc _ => lifted os started H enc)
/-- THE STATEMENT -/
theorem proved : Rows.GaloisFieldSaid := over
end Go.Proofs.Ytefnflmabdpnbaa.galoisField
