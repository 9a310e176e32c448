/- For every input, the law AztecSides of layer 28 (aztec) answers true and leaves its arguments as they were, whatever the listed tables of Go's library hold when it begins: the row and its tied card. No condition beyond the listed tables. -/
import Derived.Test.YtmnlkganmgcpbaaGreatDoorQa40
import Derived.Test.YtmnlkganmgcpbaaGreatDoorQa13
import Derived.Lib.SmallJoins
import Derived.Test.YtmnlkganmgcpbaaGreatDoorCards
namespace Go.Proofs.YtmnlkganmgcpbaaGreatDoor.aztecSides
open Go.RowKit
set_option linter.unusedVariables false
set_option linter.unusedSimpArgs false
set_option maxRecDepth 100000 in
set_option maxHeartbeats 4000000 in
theorem law_walk (L : Int) (c : Bool) (w : World) : Calls Tryz.prog 5 #[.int .i64 L, .bool c] w fun e w' => e = .returned (.bool true) ∧ Below w.heap.size w w' := by
  obtain ⟨a, ha⟩ : ∃ a, a = (sideR L c).1 := ⟨_, rfl⟩
  obtain ⟨b, hb⟩ : ∃ b, b = (sideR L c).2 := ⟨_, rfl⟩
  obtain ⟨x, hx⟩ : ∃ x, x = (wsR L c).1 := ⟨_, rfl⟩
  obtain ⟨y, hy⟩ : ∃ y, y = (wsR L c).2.1 := ⟨_, rfl⟩
  obtain ⟨z, hz⟩ : ∃ z, z = (wsR L c).2.2 := ⟨_, rfl⟩
  obtain ⟨pe, hpe⟩ : ∃ pe, pe = pathE L c := ⟨_, rfl⟩
  have HS1 : Hid (∀ W, Calls Tryz.prog 13 #[.int .i64 L, .bool c] W fun e w' => e = .returned (.tuple #[.int .i64 a, .int .i64 b]) ∧ Below W.heap.size W w') := fun W => by rw [ha, hb]; exact Side_any L c W
  have HS2 : Hid (∀ W, Calls Tryz.prog 17 #[.int .i64 L, .bool c] W fun e w' => e = .returned (.tuple #[.int .i64 a, .int .i64 b]) ∧ Below W.heap.size W w') := fun W => by rw [ha, hb]; exact rSide_any L c W
  have HW1 : Hid (∀ W, Calls Tryz.prog 16 #[.int .i64 L, .bool c] W fun e w' => e = .returned (.tuple #[.int .i64 x, .int .i64 y, .int .i64 z]) ∧ Below W.heap.size W w') := fun W => by rw [hx, hy, hz]; exact WordSize_any L c W
  have HW2 : Hid (∀ W, Calls Tryz.prog 18 #[.int .i64 L, .bool c] W fun e w' => e = .returned (.tuple #[.int .i64 x, .int .i64 y, .int .i64 z]) ∧ Below W.heap.size W w') := fun W => by rw [hx, hy, hz]; exact rWordSize_any L c W
  have HP1 : Hid (∀ W, Calls Tryz.prog 15 #[.int .i64 L, .bool c] W fun e w' => ∃ v u, e = .returned (.tuple #[v, u, .int .i64 pe]) ∧ Hid (SP w' v (pathD L c)) ∧ Hid (SP w' u (pathM L c)) ∧ Below W.heap.size W w') := fun W => by rw [hpe]; exact Path_any L c W
  have HP2 : Hid (∀ W, Calls Tryz.prog 19 #[.int .i64 L, .bool c] W fun e w' => ∃ v u, e = .returned (.tuple #[v, u, .int .i64 pe]) ∧ Hid (SP w' v (pathD L c)) ∧ Hid (SP w' u (pathM L c)) ∧ Below W.heap.size W w') := fun W => by rw [hpe]; exact rPath_any L c W
  have HSP : Hid (∀ (W : World) (v u : Value) (ps : List Pt), SP W v ps → SP W u ps → Calls Tryz.prog 20 #[v, u] W fun e w' => e = .returned (.bool true) ∧ Below W.heap.size W w') := fun W v u ps h1 h2 => by
    have h := SamePoints_any v u ps ps W h1 h2
    rw [decide_eq_true rfl] at h
    exact h
  have HEX : Hid (∀ W, Calls Tryz.prog 11 #[] W fun e w' => e = .returned (.bool true) ∧ Below W.heap.size W w') := fun W => examples_any W
  clear ha hb hx hy hz hpe
  go_enter Tryz.func5, Tryz.ntmps5
  go_wp2_with (first
    | (go_at_call 13; refine (HS1.out _).mono ?_; rintro e w1 ⟨rfl, hb1⟩; have HB1 : Hid (Below w.heap.size w w1) := hb1; clear hb1)
    | (go_at_call 17; refine (HS2.out _).mono ?_; rintro e w2 ⟨rfl, hb2⟩; have HB2 : Hid (Below w.heap.size w w2) := bwStep HB1.out hb2; clear hb2)
    | (go_at_call 16; refine (HW1.out _).mono ?_; rintro e w3 ⟨rfl, hb3⟩; have HB3 : Hid (Below w.heap.size w w3) := bwStep HB2.out hb3; clear hb3)
    | (go_at_call 18; refine (HW2.out _).mono ?_; rintro e w4 ⟨rfl, hb4⟩; have HB4 : Hid (Below w.heap.size w w4) := bwStep HB3.out hb4; clear hb4)
    | (go_at_call 15; refine (HP1.out _).mono ?_; rintro e w5 ⟨v5, u5, rfl, HD5, HM5, hb5⟩; have HB5 : Hid (Below w.heap.size w w5) := bwStep HB4.out hb5; clear hb5)
    | (go_at_call 19; refine (HP2.out _).mono ?_; rintro e w6 ⟨v6, u6, rfl, HD6, HM6, hb6⟩; have HB6 : Hid (Below w.heap.size w w6) := bwStep HB5.out hb6; have HD7 := Lib.hid (HD5.out.below hb6); have HM7 := Lib.hid (HM5.out.below hb6); clear hb6)
    | (go_at_call 20; (with_reducible show Calls _ _ #[v5, _] _ _); refine (HSP.out _ v5 v6 _ HD7.out HD6.out).mono ?_; rintro e w7 ⟨rfl, hb7⟩; have HB7 : Hid (Below w.heap.size w w7) := bwStep HB6.out hb7; have HM8 := Lib.hid (HM7.out.below hb7); have HM9 := Lib.hid (HM6.out.below hb7); clear hb7)
    | (go_at_call 20; (with_reducible show Calls _ _ #[u5, _] _ _); refine (HSP.out _ u5 u6 _ HM8.out HM9.out).mono ?_; rintro e w8 ⟨rfl, hb8⟩; have HB8 : Hid (Below w.heap.size w w8) := bwStep HB7.out hb8; clear hb8)
    | (go_at_call 11; refine (HEX.out _).mono ?_; rintro e w9 ⟨rfl, hb9⟩; have HB9 : Hid (Below w.heap.size w w9) := bwStep HB8.out hb9; clear hb9))
  go_ret
  exact ⟨rfl, HB9.out⟩
end Go.Proofs.YtmnlkganmgcpbaaGreatDoor.aztecSides
namespace Go.Proofs.YtmnlkganmgcpbaaGreatDoor.aztecSides
open Go.ChangeShapes Go.WideShapes Go.ChangeAt Go.RowKit
set_option linter.unusedVariables false
theorem k0 : Rows.aztecSidesRow.wf (OpenSpec.ofChange Rows.aztecSidesSpec) = true := by kernel_rfl
theorem k3 : Tryz.f5.params.all (Tryz.prog.readableRec ·) = true := by kernel_rfl
theorem k4 : namedTie Tryz.prog Rows.aztecSidesRow.named Rows.aztecSidesSpec.vars = true := by kernel_rfl
theorem k5 : (Rows.aztecSidesRow.stops == []) = true := by kernel_rfl
theorem k7 : (Rows.aztecSidesRow.knobs == []) = true := by kernel_rfl
theorem k9 : (Rows.aztecSidesRow.inPlace == Tryz.prog.inPlace 5) = true := by kernel_rfl
theorem k10 : (Rows.aztecSidesRow.unfollowed == Tryz.prog.unfollowed 5) = true := by kernel_rfl
theorem k11 : (Rows.aztecSidesRow.recurses == Tryz.prog.recurses 5) = true := by kernel_rfl
theorem k12 : (Rows.aztecSidesRow.named == Tryz.prog.varsNamed 5) = true := by kernel_rfl
theorem k13 : (Rows.aztecSidesRow.maps == (Tryz.f5.params.toList ++ Rows.aztecSidesSpec.plain.varTypes Tryz.prog).any (Tryz.prog.mapsRec ·)) = true := by kernel_rfl
theorem k14 : (Rows.aztecSidesRow.ifaces == (Tryz.f5.params.toList ++ Rows.aztecSidesSpec.plain.varTypes Tryz.prog).any (Tryz.prog.ifacesRec ·)) = true := by kernel_rfl
theorem k15 : (Rows.aztecSidesRow.mapsOut == Tryz.prog.mapsAmong Tryz.f5.resultTypes.toList) = true := by kernel_rfl
theorem k16 : (Rows.aztecSidesRow.loops == (Tryz.f5.params.toList ++ Rows.aztecSidesSpec.plain.varTypes Tryz.prog).any (Tryz.prog.loopsFrom ·)) = true := by kernel_rfl
theorem k17 : (Rows.aztecSidesRow.wideKeys == (Tryz.f5.params.toList ++ Rows.aztecSidesSpec.plain.varTypes Tryz.prog ++ Tryz.f5.resultTypes.toList).any (Tryz.prog.wideKeysFrom ·)) = true := by kernel_rfl
theorem k18 : Rows.aztecSidesSpec.vars.all (Tryz.prog.varReadable ·) = true := by kernel_rfl
theorem k19 : Tryz.f5.resultTypes.all (fun t => Tryz.prog.readableRec t && decide (t < Tryz.prog.types.size)) = true := by kernel_rfl
theorem k20 : (Rows.aztecSidesRow.ifacesOut == Tryz.f5.resultTypes.toList.any (Tryz.prog.ifacesRec ·)) = true := by kernel_rfl
theorem k21 : (Rows.aztecSidesRow.loopsOut == Tryz.f5.resultTypes.toList.any (Tryz.prog.loopsFrom ·)) = true := by kernel_rfl
theorem k22 : (Rows.aztecSidesRow.plainKeys == Tryz.prog.plainKeys) = true := by kernel_rfl
theorem k23 : Rows.aztecSidesRow.shortTexts.isNone = true := by kernel_rfl
theorem k26 : (Rows.aztecSidesRow.lifted == Tryz.prog.liftsFinal) = true := by kernel_rfl
theorem k27 : (Tryz.prog.make == some Rows.aztecSidesRow.make) = true := by kernel_rfl
theorem k28 : (Rows.aztecSidesRow.kinds == (if Rows.aztecSidesRow.domain.isEmpty then [] else Tryz.f5.params.toList.map fun t => match Tryz.prog.underlying t with | some (.int k) => some k | _ => none)) = true := by kernel_rfl
theorem k29 : (Rows.aztecSidesRow.pinned == Rows.aztecSidesRow.pinnedBy) = true := by kernel_rfl
theorem k30 : (Rows.aztecSidesRow.veiled == (Tryz.f5.params.toList ++ Rows.aztecSidesSpec.plain.varTypes Tryz.prog ++ Tryz.f5.resultTypes.toList).any (Tryz.prog.veiledRec ·)) = true := by kernel_rfl
theorem k31 : Rows.aztecSidesRow.veiledFits Tryz.prog Tryz.f5.params.toList (Tryz.f5.params.toList ++ Rows.aztecSidesSpec.plain.varTypes Tryz.prog ++ Tryz.f5.resultTypes.toList) = true := by kernel_rfl
set_option maxRecDepth 100000 in
theorem closedK : joinedFacts Tryz.prog 5 Tryz.f5 Rows.aztecSidesSpec Rows.aztecSidesRow = true := and_tt (and_tt (and_tt (and_tt (and_tt (and_tt (and_tt (and_tt (and_tt (and_tt (and_tt (and_tt (and_tt (and_tt (and_tt (and_tt (and_tt (and_tt (and_tt (and_tt (and_tt (and_tt (and_tt (and_tt (and_tt (and_tt (and_tt (and_tt (and_tt (and_tt (and_tt k0 fp_laid) fp_mapsRowed) k3) k4) k5) fp_stops) k7) fp_stopKnobs) k9) k10) k11) k12) k13) k14) k15) k16) k17) k18) k19) k20) k21) k22) k23) fp_stopsHeard) fp_mayEnter) k26) k27) k28) k29) k30) k31
abbrev L : List (String × DataW Unit) := [("unicode/utf8.acceptRanges", Rows.laid_unicode_utf8_acceptRanges), ("unicode/utf8.first", Rows.laid_unicode_utf8_first)]
set_option maxRecDepth 100000 in
theorem lifted (os : Os) (started : os.Started) (H : Type) (enc : TypeId × Value → H) :
    ReturnsInHanded {} Tryz.checked os 5 .any (fun w args => (Rows.aztecSidesSpec.pre enc Tryz.prog Tryz.f5 [] false w args ∧ laidMetH Tryz.prog L w) ∧ sizedMet enc Tryz.prog Tryz.f5 (OpenSpec.ofChange Rows.aztecSidesSpec) false w args)
      (Rows.aztecSidesSpec.post enc Tryz.prog Tryz.f5 false true false false) := by
  refine returnsInHanded_of_change_and (C := Tryz.checked) (X := fun w _ => laidMetH Tryz.prog L w) (fun _ _ _ hh h => h.of_heap hh) ownK started (by kernel_rfl) Tryz.func5
    (ChangeSpec.witness_shaped (enc := enc) (C := Tryz.checked) (os := os) (X := fun w _ => laidMetH Tryz.prog L w) false (World.laidAll Tryz.prog os L) #[.int .i64 0, .bool false] 8 (World.laidAll_os _ _ _)
      (World.shaped_of_ZipB (by kernel_rfl) (by kernel_rfl)) (by kernel_rfl) (by kernel_rfl) (by kernel_rfl)
      (by rw [MakeChecks.laidMetH_plain _ _ _ (by kernel_rfl)]; exact laidMet_laidAll _ (by kernel_rfl) (by kernel_rfl))) ?_
  intro W base args ds gs before hval0 hW _ _ hL _
  have hval : ∀ (j : Nat) t v, Tryz.f5.params[j]? = some t → args[j]? = some v → Value.okWide Tryz.prog W .any base t v := hval0
  have hW' := hW
  obtain ⟨p, q, hA0, hV, rfl, hfz, hnd⟩ := hW
  have hA : DataW.TrodAll enc Tryz.prog W 0 (fun _ => true) true Tryz.f5.params.toList args.toList ds p := hA0
  rw [Tryz.params5] at hA hval
  obtain ⟨v0, vs0, d0, ds0, p0, q0, hargs, rfl, rfl, h0, r0⟩ := trodAll_cons hA
  obtain ⟨v1, vs1, d1, ds1, p1, q1, rfl, rfl, rfl, h1, r1⟩ := trodAll_cons r0
  obtain ⟨rfl, rfl, rfl⟩ := trodAll_nil r1
  obtain rfl : args = #[v0, v1] := by cases args; simp_all
  obtain ⟨rfl, rfl⟩ := trodVars_none hV
  have hrd : ∀ t ∈ Tryz.f5.params.toList, Tryz.prog.readableRec t = true ∧ t < Tryz.prog.types.size := by
    rw [Tryz.params5]
    intro t ht
    simp only [List.mem_cons, List.not_mem_nil, or_false] at ht
    rcases ht with rfl | rfl <;> exact ⟨by kernel_rfl, of_decide_eq_true (by kernel_rfl)⟩
  obtain ⟨x0, rfl, rfl, rfl, w0⟩ := open_int Tryz.underlying3 (hval 0 3 v0 rfl rfl) h0
  obtain ⟨x1, rfl, rfl, rfl⟩ := open_bool Tryz.underlying4 (hval 1 4 v1 rfl rfl) h1
  refine (law_walk x0 x1 W ).mono fun e W' ⟨he, hb⟩ => ?_
  subst he
  exact ⟨_, rfl, law_post laidK Tryz.underlying4 rfl rfl hrd hW' rfl hb⟩
theorem over : Rows.aztecSidesRow.holds Tryz.pinned (OpenSpec.ofChange Rows.aztecSidesSpec) :=
  OpenClaim.holds_of_wide 5 Tryz.f5 rfl rfl rfl rfl rfl rfl rfl ⟨rfl, rfl, rfl, rfl, rfl⟩ rfl rfl rfl rfl rfl (by kernel_rfl) Tryz.func5 closedK
    (of_decide_eq_true (by kernel_rfl)) (by unfold Func.isWrapper; first | (rw [if_pos (by decide +kernel)]; kernel_rfl) | (rw [if_neg (by decide +kernel)]; exact ⟨rfl, rfl⟩))
    (fun os started H enc _ => lifted os started H enc)
theorem named : Tryz.prog.funcNamed "barscan/barscanlaw28.AztecSides" = some 5 := by kernel_rfl
theorem noStand : ([4, 3].all fun u => !Tryz.prog.wantsStandIn u) = true := by kernel_rfl
theorem proved : Rows.AztecSidesCardSaid :=
  Claim7.holds_tied_plain_at .later [] [.data, .pinned] true (true, "65e349eac71c602cf550908973254ebb7b14ef88971fe42e5ec397cea621a45b") false
    over (fun _ h => by cases h) (by kernel_rfl) (fun _ h => by cases h) aztecSides_row_tie rfl ⟨rfl, rfl⟩ (by kernel_rfl) rfl
    (fun f fn hf hfn => by
      obtain rfl : f = 5 := Option.some.inj (named.symm.trans hf) |>.symm
      obtain rfl : fn = Tryz.f5 := (Option.some.inj (Tryz.func5.symm.trans hfn)).symm
      exact ⟨by kernel_rfl, fun j t ht => by
        rw [Tryz.params5] at ht
        have hm : t ∈ [4, 3] := by
          have h := Array.mem_of_getElem? ht
          simp only [List.mem_toArray, List.mem_cons, List.not_mem_nil, or_false] at h
          rcases h with rfl | rfl <;> simp
        exact (show Tryz.prog.wantsStandIn t = false by simpa using List.all_eq_true.1 noStand t hm)⟩)
    (by kernel_rfl)
end Go.Proofs.YtmnlkganmgcpbaaGreatDoor.aztecSides
