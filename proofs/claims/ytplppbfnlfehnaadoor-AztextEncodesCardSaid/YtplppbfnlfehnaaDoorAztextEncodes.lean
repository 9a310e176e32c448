/- For every input, the law AztextEncodes of layer 27 (aztext) answers true and leaves its arguments as they were, whatever the listed tables of Go's library hold when it begins: the row and its tied card. No condition beyond the listed tables. -/
import Derived.Test.YtplppbfnlfehnaaDoorAztextEncodesW
import Derived.Test.YtplppbfnlfehnaaDoorLawKitZ
import Derived.Test.YtplppbfnlfehnaaDoorFacts
import Derived.Test.YtplppbfnlfehnaaDoorCards
namespace Go.Proofs.YtplppbfnlfehnaaDoor.aztextEncodes
open Go.ChangeShapes Go.WideShapes Go.ChangeAt Go.RowKit
set_option linter.unusedVariables false
theorem k0 : Rows.aztextEncodesRow.wf (OpenSpec.ofChange Rows.aztextEncodesSpec) = true := by kernel_rfl
theorem k3 : Tryd.f3.params.all (Tryd.prog.readableRec ·) = true := by kernel_rfl
theorem k4 : namedTie Tryd.prog Rows.aztextEncodesRow.named Rows.aztextEncodesSpec.vars = true := by kernel_rfl
theorem k5 : (Rows.aztextEncodesRow.stops == []) = true := by kernel_rfl
theorem k7 : (Rows.aztextEncodesRow.knobs == []) = true := by kernel_rfl
theorem k9 : (Rows.aztextEncodesRow.inPlace == Tryd.prog.inPlace 3) = true := by kernel_rfl
theorem k10 : (Rows.aztextEncodesRow.unfollowed == Tryd.prog.unfollowed 3) = true := by kernel_rfl
theorem k11 : (Rows.aztextEncodesRow.recurses == Tryd.prog.recurses 3) = true := by kernel_rfl
theorem k12 : (Rows.aztextEncodesRow.named == Tryd.prog.varsNamed 3) = true := by kernel_rfl
theorem k13 : (Rows.aztextEncodesRow.maps == (Tryd.f3.params.toList ++ Rows.aztextEncodesSpec.plain.varTypes Tryd.prog).any (Tryd.prog.mapsRec ·)) = true := by kernel_rfl
theorem k14 : (Rows.aztextEncodesRow.ifaces == (Tryd.f3.params.toList ++ Rows.aztextEncodesSpec.plain.varTypes Tryd.prog).any (Tryd.prog.ifacesRec ·)) = true := by kernel_rfl
theorem k15 : (Rows.aztextEncodesRow.mapsOut == Tryd.prog.mapsAmong Tryd.f3.resultTypes.toList) = true := by kernel_rfl
theorem k16 : (Rows.aztextEncodesRow.loops == (Tryd.f3.params.toList ++ Rows.aztextEncodesSpec.plain.varTypes Tryd.prog).any (Tryd.prog.loopsFrom ·)) = true := by kernel_rfl
theorem k17 : (Rows.aztextEncodesRow.wideKeys == (Tryd.f3.params.toList ++ Rows.aztextEncodesSpec.plain.varTypes Tryd.prog ++ Tryd.f3.resultTypes.toList).any (Tryd.prog.wideKeysFrom ·)) = true := by kernel_rfl
theorem k18 : Rows.aztextEncodesSpec.vars.all (Tryd.prog.varReadable ·) = true := by kernel_rfl
theorem k19 : Tryd.f3.resultTypes.all (fun t => Tryd.prog.readableRec t && decide (t < Tryd.prog.types.size)) = true := by kernel_rfl
theorem k20 : (Rows.aztextEncodesRow.ifacesOut == Tryd.f3.resultTypes.toList.any (Tryd.prog.ifacesRec ·)) = true := by kernel_rfl
theorem k21 : (Rows.aztextEncodesRow.loopsOut == Tryd.f3.resultTypes.toList.any (Tryd.prog.loopsFrom ·)) = true := by kernel_rfl
theorem k22 : (Rows.aztextEncodesRow.plainKeys == Tryd.prog.plainKeys) = true := by kernel_rfl
theorem k23 : Rows.aztextEncodesRow.shortTexts.isNone = true := by kernel_rfl
theorem k26 : (Rows.aztextEncodesRow.lifted == Tryd.prog.liftsFinal) = true := by kernel_rfl
theorem k27 : (Tryd.prog.make == some Rows.aztextEncodesRow.make) = true := by kernel_rfl
theorem k28 : (Rows.aztextEncodesRow.kinds == (if Rows.aztextEncodesRow.domain.isEmpty then [] else Tryd.f3.params.toList.map fun t => match Tryd.prog.underlying t with | some (.int k) => some k | _ => none)) = true := by kernel_rfl
theorem k29 : (Rows.aztextEncodesRow.pinned == Rows.aztextEncodesRow.pinnedBy) = true := by kernel_rfl
theorem k30 : (Rows.aztextEncodesRow.veiled == (Tryd.f3.params.toList ++ Rows.aztextEncodesSpec.plain.varTypes Tryd.prog ++ Tryd.f3.resultTypes.toList).any (Tryd.prog.veiledRec ·)) = true := by kernel_rfl
theorem k31 : Rows.aztextEncodesRow.veiledFits Tryd.prog Tryd.f3.params.toList (Tryd.f3.params.toList ++ Rows.aztextEncodesSpec.plain.varTypes Tryd.prog ++ Tryd.f3.resultTypes.toList) = true := by kernel_rfl
set_option maxRecDepth 100000 in
theorem closedK : joinedFacts Tryd.prog 3 Tryd.f3 Rows.aztextEncodesSpec Rows.aztextEncodesRow = true := and_tt (and_tt (and_tt (and_tt (and_tt (and_tt (and_tt (and_tt (and_tt (and_tt (and_tt (and_tt (and_tt (and_tt (and_tt (and_tt (and_tt (and_tt (and_tt (and_tt (and_tt (and_tt (and_tt (and_tt (and_tt (and_tt (and_tt (and_tt (and_tt (and_tt (and_tt k0 fp_laid) fp_mapsRowed) k3) k4) k5) fp_stops) k7) fp_stopKnobs) k9) k10) k11) k12) k13) k14) k15) k16) k17) k18) k19) k20) k21) k22) k23) fp_stopsHeard) fp_mayEnter) k26) k27) k28) k29) k30) k31
abbrev L : List (String × DataW Unit) := [("unicode/utf8.acceptRanges", Rows.laid_unicode_utf8_acceptRanges), ("unicode/utf8.first", Rows.laid_unicode_utf8_first)]
set_option maxRecDepth 100000 in
theorem lifted (os : Os) (started : os.Started) (H : Type) (enc : TypeId × Value → H) :
    ReturnsInHanded {} Tryd.checked os 3 .any (fun w args => (Rows.aztextEncodesSpec.pre enc Tryd.prog Tryd.f3 [] false w args ∧ laidMetH Tryd.prog L w) ∧ sizedMet enc Tryd.prog Tryd.f3 (OpenSpec.ofChange Rows.aztextEncodesSpec) false w args)
      (Rows.aztextEncodesSpec.post enc Tryd.prog Tryd.f3 false true false false) := by
  refine returnsInHanded_of_change_and (C := Tryd.checked) (X := fun w _ => laidMetH Tryd.prog L w) (fun _ _ _ hh h => h.of_heap hh) ownK started (by kernel_rfl) Tryd.func3
    (ChangeSpec.witness_shaped (enc := enc) (C := Tryd.checked) (os := os) (X := fun w _ => laidMetH Tryd.prog L w) false (World.laidAll Tryd.prog os L) #[.slice none 0 0] 8 (World.laidAll_os _ _ _)
      (World.shaped_of_ZipB (by kernel_rfl) (by kernel_rfl)) (by kernel_rfl) (by kernel_rfl) (by kernel_rfl)
      (by rw [MakeChecks.laidMetH_plain _ _ _ (by kernel_rfl)]; exact laidMet_laidAll _ (by kernel_rfl) (by kernel_rfl))) ?_
  intro W base args ds gs before hval0 hW _ _ hL _
  have hval : ∀ (j : Nat) t v, Tryd.f3.params[j]? = some t → args[j]? = some v → Value.okWide Tryd.prog W .any base t v := hval0
  have hW' := hW
  obtain ⟨p, q, hA0, hV, rfl, hfz, hnd⟩ := hW
  have hA : DataW.TrodAll enc Tryd.prog W 0 (fun _ => true) true Tryd.f3.params.toList args.toList ds p := hA0
  rw [Tryd.params3] at hA hval
  obtain ⟨v0, vs0, d0, ds0, p0, q0, hargs, rfl, rfl, h0, r0⟩ := trodAll_cons hA
  obtain ⟨rfl, rfl, rfl⟩ := trodAll_nil r0
  obtain rfl : args = #[v0] := by cases args; simp_all
  obtain ⟨rfl, rfl⟩ := trodVars_none hV
  have hrd : ∀ t ∈ Tryd.f3.params.toList, Tryd.prog.readableRec t = true ∧ t < Tryd.prog.types.size := by
    rw [Tryd.params3]
    intro t ht
    obtain rfl := List.mem_singleton.1 ht
    exact ⟨by kernel_rfl, of_decide_eq_true (by kernel_rfl)⟩
  obtain ⟨A0, n0, c0, l0, rfl, s0⟩ := open_slU (hval 0 22 v0 rfl rfl) h0
  refine (law_walk A0 n0 c0 l0 W s0).mono fun e W' ⟨he, hb⟩ => ?_
  subst he
  exact ⟨_, rfl, law_post laidK Tryd.underlying4 rfl rfl hrd hW' rfl hb⟩
theorem over : Rows.aztextEncodesRow.holds Tryd.pinned (OpenSpec.ofChange Rows.aztextEncodesSpec) :=
  OpenClaim.holds_of_wide 3 Tryd.f3 rfl rfl rfl rfl rfl rfl rfl ⟨rfl, rfl, rfl, rfl, rfl⟩ rfl rfl rfl rfl rfl (by kernel_rfl) Tryd.func3 closedK
    (of_decide_eq_true (by kernel_rfl)) (by unfold Func.isWrapper; first | (rw [if_pos (by decide +kernel)]; kernel_rfl) | (rw [if_neg (by decide +kernel)]; exact ⟨rfl, rfl⟩))
    (fun os started H enc _ => lifted os started H enc)
theorem named : Tryd.prog.funcNamed "barscan/barscanlaw27.AztextEncodes" = some 3 := by kernel_rfl
theorem noStand : ([22].all fun u => !Tryd.prog.wantsStandIn u) = true := by kernel_rfl
/-- THE STATEMENT -/
theorem proved : Rows.AztextEncodesCardSaid :=
  Claim7.holds_tied_plain_at .later [] [.data, .pinned] true (true, "1b40f8732b48c371750c4474507301b92b5888e1bcebe3051960a19545d39640") false
    over (fun _ h => by cases h) (by kernel_rfl) (fun _ h => by cases h) aztextEncodes_row_tie rfl ⟨rfl, rfl⟩ (by kernel_rfl) rfl
    (fun f fn hf hfn => by
      obtain rfl : f = 3 := Option.some.inj (named.symm.trans hf) |>.symm
      obtain rfl : fn = Tryd.f3 := (Option.some.inj (Tryd.func3.symm.trans hfn)).symm
      exact ⟨by kernel_rfl, fun j t ht => by
        rw [Tryd.params3] at ht
        have hm : t ∈ [22] := by
          have h := Array.mem_of_getElem? ht
          simp only [List.mem_toArray, List.mem_cons, List.not_mem_nil, or_false] at h
          rcases h with rfl <;> simp
        exact (show Tryd.prog.wantsStandIn t = false by simpa using List.all_eq_true.1 noStand t hm)⟩)
    (by kernel_rfl)
end Go.Proofs.YtplppbfnlfehnaaDoor.aztextEncodes
