/- For every input, the law GaloisLogarithms of layer 4 (galois) answers true and leaves its argument as it was. No condition. -/
import Derived.Test.YtefnflmabdpnbaaGaloisLogarithmsW
import Derived.Test.YtefnflmabdpnbaaLawKit
import Derived.Test.YtefnflmabdpnbaaFacts
namespace Go.Proofs.Ytefnflmabdpnbaa.galoisLogarithms
open Go.ChangeShapes Go.WideShapes Go.ChangeAt Go.RowKit
set_option linter.unusedVariables false
theorem k0 : Rows.galoisLogarithmsRow.wf (OpenSpec.ofChange Rows.galoisLogarithmsSpec) = true := by kernel_rfl
theorem k3 : Try.f4.params.all (Try.prog.readableRec ·) = true := by kernel_rfl
theorem k4 : namedTie Try.prog Rows.galoisLogarithmsRow.named Rows.galoisLogarithmsSpec.vars = true := by kernel_rfl
theorem k5 : (Rows.galoisLogarithmsRow.stops == []) = true := by kernel_rfl
theorem k7 : (Rows.galoisLogarithmsRow.knobs == []) = true := by kernel_rfl
theorem k9 : (Rows.galoisLogarithmsRow.inPlace == Try.prog.inPlace 4) = true := by kernel_rfl
theorem k10 : (Rows.galoisLogarithmsRow.unfollowed == Try.prog.unfollowed 4) = true := by kernel_rfl
theorem k11 : (Rows.galoisLogarithmsRow.recurses == Try.prog.recurses 4) = true := by kernel_rfl
theorem k12 : (Rows.galoisLogarithmsRow.named == Try.prog.varsNamed 4) = true := by kernel_rfl
theorem k13 : (Rows.galoisLogarithmsRow.maps == (Try.f4.params.toList ++ Rows.galoisLogarithmsSpec.plain.varTypes Try.prog).any (Try.prog.mapsRec ·)) = true := by kernel_rfl
theorem k14 : (Rows.galoisLogarithmsRow.ifaces == (Try.f4.params.toList ++ Rows.galoisLogarithmsSpec.plain.varTypes Try.prog).any (Try.prog.ifacesRec ·)) = true := by kernel_rfl
theorem k15 : (Rows.galoisLogarithmsRow.mapsOut == Try.prog.mapsAmong Try.f4.resultTypes.toList) = true := by kernel_rfl
theorem k16 : (Rows.galoisLogarithmsRow.loops == (Try.f4.params.toList ++ Rows.galoisLogarithmsSpec.plain.varTypes Try.prog).any (Try.prog.loopsFrom ·)) = true := by kernel_rfl
theorem k17 : (Rows.galoisLogarithmsRow.wideKeys == (Try.f4.params.toList ++ Rows.galoisLogarithmsSpec.plain.varTypes Try.prog ++ Try.f4.resultTypes.toList).any (Try.prog.wideKeysFrom ·)) = true := by kernel_rfl
theorem k18 : Rows.galoisLogarithmsSpec.vars.all (Try.prog.varReadable ·) = true := by kernel_rfl
theorem k19 : Try.f4.resultTypes.all (fun t => Try.prog.readableRec t && decide (t < Try.prog.types.size)) = true := by kernel_rfl
theorem k20 : (Rows.galoisLogarithmsRow.ifacesOut == Try.f4.resultTypes.toList.any (Try.prog.ifacesRec ·)) = true := by kernel_rfl
theorem k21 : (Rows.galoisLogarithmsRow.loopsOut == Try.f4.resultTypes.toList.any (Try.prog.loopsFrom ·)) = true := by kernel_rfl
theorem k22 : (Rows.galoisLogarithmsRow.plainKeys == Try.prog.plainKeys) = true := by kernel_rfl
theorem k23 : Rows.galoisLogarithmsRow.shortTexts.isNone = true := by kernel_rfl
theorem k26 : (Rows.galoisLogarithmsRow.lifted == Try.prog.liftsFinal) = true := by kernel_rfl
theorem k27 : (Try.prog.make == some Rows.galoisLogarithmsRow.make) = true := by kernel_rfl
theorem k28 : (Rows.galoisLogarithmsRow.kinds == (if Rows.galoisLogarithmsRow.domain.isEmpty then [] else Try.f4.params.toList.map fun t => match Try.prog.underlying t with | some (.int k) => some k | _ => none)) = true := by kernel_rfl
theorem k29 : (Rows.galoisLogarithmsRow.pinned == Rows.galoisLogarithmsRow.pinnedBy) = true := by kernel_rfl
theorem k30 : (Rows.galoisLogarithmsRow.veiled == (Try.f4.params.toList ++ Rows.galoisLogarithmsSpec.plain.varTypes Try.prog ++ Try.f4.resultTypes.toList).any (Try.prog.veiledRec ·)) = true := by kernel_rfl
theorem k31 : Rows.galoisLogarithmsRow.veiledFits Try.prog Try.f4.params.toList (Try.f4.params.toList ++ Rows.galoisLogarithmsSpec.plain.varTypes Try.prog ++ Try.f4.resultTypes.toList) = true := by kernel_rfl
theorem closedK : joinedFacts Try.prog 4 Try.f4 Rows.galoisLogarithmsSpec Rows.galoisLogarithmsRow = true := and_tt (and_tt (and_tt (and_tt (and_tt (and_tt (and_tt (and_tt (and_tt (and_tt (and_tt (and_tt (and_tt (and_tt (and_tt (and_tt (and_tt (and_tt (and_tt (and_tt (and_tt (and_tt (and_tt (and_tt (and_tt (and_tt (and_tt (and_tt (and_tt (and_tt (and_tt k0 fp_laid) fp_mapsRowed) k3) k4) k5) fp_stops) k7) fp_stopKnobs) k9) k10) k11) k12) k13) k14) k15) k16) k17) k18) k19) k20) k21) k22) k23) fp_stopsHeard) fp_mayEnter) k26) k27) k28) k29) k30) k31

theorem ownK : ownKnob Try.prog.godebug = none := by kernel_rfl
theorem laidK : laidOutB Try.prog = true := by kernel_rfl
set_option maxRecDepth 100000 in
theorem lifted (os : Os) (started : os.Started) (H : Type) (enc : TypeId × Value → H) :
    ReturnsInHanded {} Try.checked os 4 .any (Rows.galoisLogarithmsSpec.pre6 enc Try.prog Try.f4 Rows.galoisLogarithmsRow.domain false) (Rows.galoisLogarithmsSpec.post enc Try.prog Try.f4 false true false false) := by
  refine returnsInHanded_of_change (C := Try.checked) ownK started (by kernel_rfl) Try.func4
    (ChangeSpec.witness6 (enc := enc) (C := Try.checked) false ⟨#[], #[.agg #[.int .i64 0, .int .i64 0, .int .i64 0, .int .i64 0, .int .i64 0, .int .i64 0]], []⟩ 12 (by kernel_rfl) (by kernel_rfl) (by kernel_rfl) (by kernel_rfl)) ?_
  intro W base args ds gs before hval0 hW hcnd _
  have hval : ∀ (j : Nat) t v, Try.f4.params[j]? = some t → args[j]? = some v → Value.okWide Try.prog W .any base t v := hval0
  have hW' := hW
  obtain ⟨p, q, hA0, hV, rfl, hfz, hnd⟩ := hW
  have hA : DataW.TrodAll enc Try.prog W 0 (fun _ => true) true Try.f4.params.toList args.toList ds p := hA0
  rw [Try.params4] at hA hval
  obtain ⟨v0, vs0, d0, ds0, p0, q0, hargs, rfl, rfl, h0, r0⟩ := trodAll_cons hA
  obtain ⟨rfl, rfl, rfl⟩ := trodAll_nil r0
  obtain rfl : args = #[v0] := by cases args; simp_all
  obtain ⟨rfl, rfl⟩ := trodVars_none hV
  have hrd : ∀ t ∈ Try.f4.params.toList, Try.prog.readableRec t = true ∧ t < Try.prog.types.size := by
    rw [Try.params4]
    intro t ht
    simp only [List.mem_cons, List.not_mem_nil, or_false] at ht
    subst ht; exact ⟨by kernel_rfl, of_decide_eq_true (by kernel_rfl)⟩
  obtain ⟨c, s, p, a, b, n, rfl, bc, bs, bp, ba, bb, bn⟩ := open_ask (hval 0 32 v0 rfl rfl) h0
  refine (law_walk c s p a b n bc bs bp ba bb bn W).mono fun e W' ⟨he, hb⟩ => ?_
  subst he
  exact ⟨_, rfl, law_post laidK Try.underlying4 rfl rfl hrd hW' rfl hb⟩
theorem over : Rows.galoisLogarithmsRow.holds Try.pinned (OpenSpec.ofChange Rows.galoisLogarithmsSpec) :=
  OpenClaim.holds_of_wide 4 Try.f4 rfl rfl rfl rfl rfl rfl rfl ⟨rfl, rfl, rfl, rfl, rfl⟩ rfl rfl rfl rfl rfl (by kernel_rfl) Try.func4 closedK
    (of_decide_eq_true (by kernel_rfl)) (by unfold Func.isWrapper; first | (rw [if_pos (by decide +kernel)]; kernel_rfl) | (rw [if_neg (by decide +kernel)]; exact ⟨rfl, rfl⟩))
    (fun os started H enc _ => lifted os started H enc)
/-- THE STATEMENT -/
theorem proved : Rows.GaloisLogarithmsSaid := over
end Go.Proofs.Ytefnflmabdpnbaa.galoisLogarithms
