/- For every input, the law PolynomialAdds of layer 5 (polynomial) answers true and leaves its arguments as they were. No condition. -/
import Derived.Test.YthpcneeidhmdkaaM19
import Derived.SizedLaws
import Derived.Test.YthpcneeidhmdkaaFacts
namespace Go.Proofs.Ythpcneeidhmdkaa.polynomialAdds
open Go.RowKit
set_option linter.unusedVariables false
set_option linter.unusedSimpArgs false
theorem Trim_z (xs : List Int) (n : Nat) (A : Option Addr) (ca : Nat) (w : World) (h1 : n * 8 ≤ 140737488355328) (hq : (⟨A, n, ca, xs⟩ : Sl).R w) :
    Calls Try.prog 34 #[.slice A n ca] w fun e w' => ∃ v, e = .returned v ∧ Ints w' v (trimI xs) ∧ Below w.heap.size w w' := by
  have e : n = xs.length := hq.hn
  have h2 := hq.hc
  have h3 := hq.rd
  subst e
  exact Trim_any xs A ca w h1 h2 h3
theorem rTrim_z (xs : List Int) (n : Nat) (A : Option Addr) (ca : Nat) (w : World) (h1 : n * 8 ≤ 140737488355328) (hq : (⟨A, n, ca, xs⟩ : Sl).R w) :
    Calls Try.prog 47 #[.slice A n ca] w fun e w' => ∃ v, e = .returned v ∧ Ints w' v (trimI xs) ∧ Below w.heap.size w w' := by
  have e : n = xs.length := hq.hn
  have h2 := hq.hc
  have h3 := hq.rd
  subst e
  exact rTrim_any xs A ca w h1 h2 h3
set_option maxRecDepth 100000 in
set_option maxHeartbeats 8000000 in
theorem law_walk (c s p : Int) (q r : Sl) (x : Int) (w : World) (bc : I64 c) (bs : I64 s) (bp : I64 p) (hq : q.R w) (hr : r.R w) (bx : I64 x) (hz : q.n * 8 ≤ 140737488355328) :
    Calls Try.prog 13 #[fldv c s p, q.v, r.v, .int .i64 x] w fun e w' => e = .returned (.bool true) ∧ Below w.heap.size w w' := by
  obtain ⟨A, n, ca, xs⟩ := q
  obtain ⟨B, m, cb, ys⟩ := r
  have hp := bp.2
  have hs := bs.2
  have hbx : Below w.heap.size w (w.alloc (fldB c s p)) := (Below.refl _ _).alloc (Nat.le_refl _) _
  have HQ := Lib.hid (hq.below hbx)
  have HR := Lib.hid (hr.below hbx)
  show Calls Try.prog 13 #[fldv c s p, .slice A n ca, .slice B m cb, .int .i64 x] w fun e w' => e = .returned (.bool true) ∧ Below w.heap.size w w'
  have CB : Hid (CellsAt (w.alloc (fldB c s p)) w.heap.size (fldC c s p)) := CellsAt.new _ _ _ _ rfl
  have hz1 : n * 8 ≤ 140737488355328 := hz
  have HZ := Lib.hid hz1
  clear hq hr hbx bc bs bp bx hz hz1
  go_enter Try.func13, Try.ntmps13
  go_wp2_with fail
  refine (pAdd_any c s p ⟨A, n, ca, xs⟩ ⟨B, m, cb, ys⟩ _ hp HQ.out HR.out).mono ?_
  rintro e w1 ⟨v1, rfl, hI1, hb1⟩
  have HB1 := Lib.hid hb1
  have HI1 := Lib.hid hI1
  obtain ⟨f0, f1, f2⟩ := fldC_cells (CB.out.below HB1.out)
  clear hI1 hb1
  go_wp2_with fail
  refine (rAdd_any c s p ⟨A, n, ca, xs⟩ ⟨B, m, cb, ys⟩ _ hs hp (HQ.out.below HB1.out) (HR.out.below HB1.out)).mono ?_
  rintro e w2 ⟨v2, rfl, hI2, hb2⟩
  have HB2 : Hid (Abv (w.alloc (fldB c s p)) w2) := bwStep HB1.out hb2
  have HJ1 := Lib.hid (HI1.out.below hb2)
  have HI2 := Lib.hid hI2
  clear hI2 hb2 f0 f1 f2 HI1
  obtain ⟨f0, f1, f2⟩ := fldC_cells (CB.out.below HB2.out)
  generalize addRes c s p _ _ = R at *
  obtain ⟨L1, err1⟩ := R
  go_wp2_with fail
  refine (pScale_any c s p x ⟨A, n, ca, xs⟩ _ hp (HQ.out.below HB2.out)).mono ?_
  rintro e w3 ⟨v3, rfl, hI3, hb3⟩
  have HB3 : Hid (Abv (w.alloc (fldB c s p)) w3) := bwStep HB2.out hb3
  have HC3 : Hid (Abv w2 w3) := hb3
  have HI3 := Lib.hid hI3
  clear hI3 hb3 f0 f1 f2
  obtain ⟨f0, f1, f2⟩ := fldC_cells (CB.out.below HB3.out)
  go_wp2_with fail
  refine (rScale_any c s p x ⟨A, n, ca, xs⟩ _ hs hp (HQ.out.below HB3.out)).mono ?_
  rintro e w4 ⟨v4, rfl, hI4, hb4⟩
  have HB4 : Hid (Abv (w.alloc (fldB c s p)) w4) := bwStep HB3.out hb4
  have HC4 : Hid (Abv w2 w4) := bwStep HC3.out hb4
  have HJ3 := Lib.hid (HI3.out.below hb4)
  have HI4 := Lib.hid hI4
  clear hI4 hb4 f0 f1 f2 HI3 HC3
  obtain ⟨f0, f1, f2⟩ := fldC_cells (CB.out.below HB4.out)
  generalize scaleRes c s p _ _ = R at *
  obtain ⟨L2, err2⟩ := R
  go_wp2_with fail
  refine (pDerive_any c s p ⟨A, n, ca, xs⟩ _ hp (HQ.out.below HB4.out)).mono ?_
  rintro e w5 ⟨v5, rfl, hI5, hb5⟩
  have HB5 : Hid (Abv (w.alloc (fldB c s p)) w5) := bwStep HB4.out hb5
  have HC5 : Hid (Abv w2 w5) := bwStep HC4.out hb5
  have HD5 : Hid (Abv w4 w5) := hb5
  have HI5 := Lib.hid hI5
  clear hI5 hb5 f0 f1 f2
  obtain ⟨f0, f1, f2⟩ := fldC_cells (CB.out.below HB5.out)
  go_wp2_with fail
  refine (rDerive_any c s p ⟨A, n, ca, xs⟩ _ hs hp (HQ.out.below HB5.out)).mono ?_
  rintro e w6 ⟨v6, rfl, hI6, hb6⟩
  have HB6 : Hid (Abv (w.alloc (fldB c s p)) w6) := bwStep HB5.out hb6
  have HJ5 := Lib.hid (HI5.out.below hb6)
  have HI6 := Lib.hid hI6
  have HK1 : Hid (Ints w6 v1 L1) := HJ1.out.below (bwStep HC5.out hb6)
  have HK2 : Hid (Ints w6 v2 L1) := HI2.out.below (bwStep HC5.out hb6)
  have HK3 : Hid (Ints w6 v3 L2) := HJ3.out.below (bwStep HD5.out hb6)
  have HK4 : Hid (Ints w6 v4 L2) := HI4.out.below (bwStep HD5.out hb6)
  clear hI6 hb6 f0 f1 f2 HI5 HC5 HD5 HC4 HJ1 HI2 HJ3 HI4
  generalize derRes c s p _ = R at *
  obtain ⟨L3, err3⟩ := R
  have HQ6 : Hid ((⟨A, n, ca, xs⟩ : Sl).R w6) := HQ.out.below HB6.out
  have CF : Hid (∀ W, Abv w6 W → W.cell? ⟨w.heap.size, 0, none⟩ = some (.int .i64 c) ∧ W.cell? ⟨w.heap.size, 1, none⟩ = some (.int .i64 s) ∧ W.cell? ⟨w.heap.size, 2, none⟩ = some (.int .i64 p)) := fun W hW => fldC_cells (CB.out.below (bwStep HB6.out hW))
  have HBF : Hid (Below w.heap.size w w6) := bw1 HB6.out
  clear HQ HR CB HB1 HB2 HB3 HB4 HB5 HB6
  have HD0 : Hid (Abv w6 w6.drew) := bwDrew (Below.refl _ _)
  go_wp2_with fail
  refine wp_region_W (S := Abv w6) [(false, 0), (false, 1), (true, 2), (false, 3), (false, 4), (false, 5), (false, 6), (false, 7), (false, 8), (false, 9), (false, 10), (true, 11), (false, 12), (false, 13), (false, 14), (false, 15), (false, 16), (false, 17), (false, 18), (false, 19), (false, 20), (true, 21), (false, 22), (false, 23), (false, 24), (false, 25), (false, 26), (false, 27), (false, 28), (false, 29), (false, 30), (false, 32), (false, 33), (true, 31), (true, 34), (false, 35), (false, 36), (false, 37), (false, 38), (false, 40), (true, 39), (true, 41), (true, 42), (false, 43), (false, 44), (true, 45), (false, 46), (false, 47)] (by kernel_rfl) (by kernel_rfl) HD0.out ?_
  simp only [attachW, List.getElem?_cons_zero, List.getElem?_cons_succ]
  repeat
    first
    | refine' wpHX_val rfl (fun W hW => ?_) ?_
    | refine' wpHX_gval rfl (fun W hW => ?_) ?_
    rotate_left
    · have hcf := CF.out W hW; go_simp; rfl
    simp only [Act.put, List.setIfInBounds_toArray, List.set_cons_zero, List.set_cons_succ]
  refine' wpHX_acall rfl (fun W => ?_) ?_
  rotate_left 2
  · go_simp; exact ⟨rfl, rfl⟩
  refine (same_v L1 L1 v1 v2 _ (HK1.out.below HD0.out) (HK2.out.below HD0.out)).mono ?_
  rintro e w7 ⟨rfl, hb⟩
  rw [show decide (L1 = L1) = true from by simp]
  have HB7 : Hid (Abv w6 w7) := bwStep HD0.out hb
  clear hb
  refine ⟨_, rfl, HB7.out, ?_⟩
  simp only [Act.put, List.setIfInBounds_toArray, List.set_cons_zero, List.set_cons_succ]
  repeat
    first
    | refine' wpHX_val rfl (fun W hW => ?_) ?_
    | refine' wpHX_gval rfl (fun W hW => ?_) ?_
    rotate_left
    · have hcf := CF.out W hW; go_simp; rfl
    simp only [Act.put, List.setIfInBounds_toArray, List.set_cons_zero, List.set_cons_succ]
  refine' wpHX_acall rfl (fun W => ?_) ?_
  rotate_left 2
  · go_simp; exact ⟨rfl, rfl⟩
  refine (same_v L2 L2 v3 v4 _ (HK3.out.below HB7.out) (HK4.out.below HB7.out)).mono ?_
  rintro e w8 ⟨rfl, hb⟩
  rw [show decide (L2 = L2) = true from by simp]
  have HB8 : Hid (Abv w6 w8) := bwStep HB7.out hb
  clear hb
  refine ⟨_, rfl, HB8.out, ?_⟩
  simp only [Act.put, List.setIfInBounds_toArray, List.set_cons_zero, List.set_cons_succ]
  repeat
    first
    | refine' wpHX_val rfl (fun W hW => ?_) ?_
    | refine' wpHX_gval rfl (fun W hW => ?_) ?_
    rotate_left
    · have hcf := CF.out W hW; go_simp; rfl
    simp only [Act.put, List.setIfInBounds_toArray, List.set_cons_zero, List.set_cons_succ]
  refine' wpHX_acall rfl (fun W => ?_) ?_
  rotate_left 2
  · go_simp; exact ⟨rfl, rfl⟩
  refine (same_v L3 L3 v5 v6 _ (HJ5.out.below HB8.out) (HI6.out.below HB8.out)).mono ?_
  rintro e w9 ⟨rfl, hb⟩
  rw [show decide (L3 = L3) = true from by simp]
  have HB9 : Hid (Abv w6 w9) := bwStep HB8.out hb
  clear hb
  refine ⟨_, rfl, HB9.out, ?_⟩
  simp only [Act.put, List.setIfInBounds_toArray, List.set_cons_zero, List.set_cons_succ]
  repeat
    first
    | refine' wpHX_val rfl (fun W hW => ?_) ?_
    | refine' wpHX_gval rfl (fun W hW => ?_) ?_
    rotate_left
    · have hcf := CF.out W hW; go_simp; rfl
    simp only [Act.put, List.setIfInBounds_toArray, List.set_cons_zero, List.set_cons_succ]
  refine' wpHX_acall rfl (fun W => ?_) ?_
  rotate_left 2
  · go_simp; exact ⟨rfl, rfl⟩
  refine (pValid_any c s p ⟨A, n, ca, xs⟩ _ hp (HQ6.out.below HB9.out)).mono ?_
  rintro e w10 ⟨rfl, hb⟩
  have HB10 : Hid (Abv w6 w10) := bwStep HB9.out hb
  clear hb
  refine ⟨_, rfl, HB10.out, ?_⟩
  simp only [Act.put, List.setIfInBounds_toArray, List.set_cons_zero, List.set_cons_succ]
  refine' wpHX_acall rfl (fun W => ?_) ?_
  rotate_left 2
  · go_simp; exact ⟨rfl, rfl⟩
  refine (rpValid_n c s p A n ca xs _ hs hp (HQ6.out.below HB10.out)).mono ?_
  rintro e w11 ⟨rfl, hb⟩
  have HB11 : Hid (Abv w6 w11) := bwStep HB10.out hb
  clear hb
  generalize pvB c s p _ = vb
  refine ⟨_, rfl, HB11.out, ?_⟩
  simp only [Act.put, List.setIfInBounds_toArray, List.set_cons_zero, List.set_cons_succ]
  repeat
    first
    | refine' wpHX_val rfl (fun W hW => ?_) ?_
    | refine' wpHX_gval rfl (fun W hW => ?_) ?_
    rotate_left
    · have hcf := CF.out W hW; go_simp; rfl
    simp only [Act.put, List.setIfInBounds_toArray, List.set_cons_zero, List.set_cons_succ]
  refine' wpHX_acall rfl (fun W => ?_) ?_
  rotate_left 2
  · go_simp; exact ⟨rfl, rfl⟩
  refine (Trim_z xs n A ca _ HZ.out (HQ6.out.below HB11.out)).mono ?_
  rintro e w12 ⟨v12, rfl, hI12, hb⟩
  have HB12 : Hid (Abv w6 w12) := bwStep HB11.out hb
  have HI12 := Lib.hid hI12
  clear hb hI12
  refine ⟨_, rfl, HB12.out, ?_⟩
  simp only [Act.put, List.setIfInBounds_toArray, List.set_cons_zero, List.set_cons_succ]
  refine' wpHX_acall rfl (fun W => ?_) ?_
  rotate_left 2
  · go_simp; exact ⟨rfl, rfl⟩
  refine (rTrim_z xs n A ca _ HZ.out (HQ6.out.below HB12.out)).mono ?_
  rintro e w13 ⟨v13, rfl, hI13, hb⟩
  have HB13 : Hid (Abv w6 w13) := bwStep HB12.out hb
  have HJ12 := Lib.hid (HI12.out.below hb)
  have HI13 := Lib.hid hI13
  clear hb hI13 HI12
  refine ⟨_, rfl, HB13.out, ?_⟩
  simp only [Act.put, List.setIfInBounds_toArray, List.set_cons_zero, List.set_cons_succ]
  refine' wpHX_acall rfl (fun W => ?_) ?_
  rotate_left 2
  · go_simp; exact ⟨rfl, rfl⟩
  refine (same_v _ _ v12 v13 _ HJ12.out HI13.out).mono ?_
  rintro e w14 ⟨rfl, hb⟩
  rw [show decide (trimI xs = trimI xs) = true from by simp]
  have HB14 : Hid (Abv w6 w14) := bwStep HB13.out hb
  clear hb
  refine ⟨_, rfl, HB14.out, ?_⟩
  simp only [Act.put, List.setIfInBounds_toArray, List.set_cons_zero, List.set_cons_succ]
  repeat
    first
    | refine' wpHX_val rfl (fun W hW => ?_) ?_
    | refine' wpHX_gval rfl (fun W hW => ?_) ?_
    rotate_left
    · have hcf := CF.out W hW; go_simp; rfl
    simp only [Act.put, List.setIfInBounds_toArray, List.set_cons_zero, List.set_cons_succ]
  refine' wpHX_acall rfl (fun W => ?_) ?_
  rotate_left 2
  · go_simp; exact ⟨rfl, rfl⟩
  refine (examples_any _).mono ?_
  rintro e w15 ⟨rfl, hb⟩
  have HB15 : Hid (Abv w6 w15) := bwStep HB14.out hb
  clear hb
  refine ⟨_, rfl, HB15.out, ?_⟩
  simp only [Act.put, List.setIfInBounds_toArray, List.set_cons_zero, List.set_cons_succ]
  repeat
    first
    | refine' wpHX_val rfl (fun W hW => ?_) ?_
    | refine' wpHX_gval rfl (fun W hW => ?_) ?_
    rotate_left
    · have hcf := CF.out W hW; go_simp; rfl
    simp only [Act.put, List.setIfInBounds_toArray, List.set_cons_zero, List.set_cons_succ]
  refine wpHX_nil ?_
  go_wp2
  go_ret
  exact ⟨rfl, bwStep HBF.out HB15.out⟩
end Go.Proofs.Ythpcneeidhmdkaa.polynomialAdds
namespace Go.Proofs.Ythpcneeidhmdkaa.polynomialAdds
open Go.ChangeShapes Go.WideShapes Go.ChangeAt Go.RowKit
set_option linter.unusedVariables false
theorem k0 : Rows.polynomialAddsRow.wf (OpenSpec.ofChange Rows.polynomialAddsSpec) = true := by kernel_rfl
theorem k3 : Try.f13.params.all (Try.prog.readableRec ·) = true := by kernel_rfl
theorem k4 : namedTie Try.prog Rows.polynomialAddsRow.named Rows.polynomialAddsSpec.vars = true := by kernel_rfl
theorem k5 : (Rows.polynomialAddsRow.stops == []) = true := by kernel_rfl
theorem k7 : (Rows.polynomialAddsRow.knobs == []) = true := by kernel_rfl
theorem k9 : (Rows.polynomialAddsRow.inPlace == Try.prog.inPlace 13) = true := by kernel_rfl
theorem k10 : (Rows.polynomialAddsRow.unfollowed == Try.prog.unfollowed 13) = true := by kernel_rfl
theorem k11 : (Rows.polynomialAddsRow.recurses == Try.prog.recurses 13) = true := by kernel_rfl
theorem k12 : (Rows.polynomialAddsRow.named == Try.prog.varsNamed 13) = true := by kernel_rfl
theorem k13 : (Rows.polynomialAddsRow.maps == (Try.f13.params.toList ++ Rows.polynomialAddsSpec.plain.varTypes Try.prog).any (Try.prog.mapsRec ·)) = true := by kernel_rfl
theorem k14 : (Rows.polynomialAddsRow.ifaces == (Try.f13.params.toList ++ Rows.polynomialAddsSpec.plain.varTypes Try.prog).any (Try.prog.ifacesRec ·)) = true := by kernel_rfl
theorem k15 : (Rows.polynomialAddsRow.mapsOut == Try.prog.mapsAmong Try.f13.resultTypes.toList) = true := by kernel_rfl
theorem k16 : (Rows.polynomialAddsRow.loops == (Try.f13.params.toList ++ Rows.polynomialAddsSpec.plain.varTypes Try.prog).any (Try.prog.loopsFrom ·)) = true := by kernel_rfl
theorem k17 : (Rows.polynomialAddsRow.wideKeys == (Try.f13.params.toList ++ Rows.polynomialAddsSpec.plain.varTypes Try.prog ++ Try.f13.resultTypes.toList).any (Try.prog.wideKeysFrom ·)) = true := by kernel_rfl
theorem k18 : Rows.polynomialAddsSpec.vars.all (Try.prog.varReadable ·) = true := by kernel_rfl
theorem k19 : Try.f13.resultTypes.all (fun t => Try.prog.readableRec t && decide (t < Try.prog.types.size)) = true := by kernel_rfl
theorem k20 : (Rows.polynomialAddsRow.ifacesOut == Try.f13.resultTypes.toList.any (Try.prog.ifacesRec ·)) = true := by kernel_rfl
theorem k21 : (Rows.polynomialAddsRow.loopsOut == Try.f13.resultTypes.toList.any (Try.prog.loopsFrom ·)) = true := by kernel_rfl
theorem k22 : (Rows.polynomialAddsRow.plainKeys == Try.prog.plainKeys) = true := by kernel_rfl
theorem k23 : Rows.polynomialAddsRow.shortTexts.isNone = true := by kernel_rfl
theorem k26 : (Rows.polynomialAddsRow.lifted == Try.prog.liftsFinal) = true := by kernel_rfl
theorem k27 : (Try.prog.make == some Rows.polynomialAddsRow.make) = true := by kernel_rfl
theorem k28 : (Rows.polynomialAddsRow.kinds == (if Rows.polynomialAddsRow.domain.isEmpty then [] else Try.f13.params.toList.map fun t => match Try.prog.underlying t with | some (.int k) => some k | _ => none)) = true := by kernel_rfl
theorem k29 : (Rows.polynomialAddsRow.pinned == Rows.polynomialAddsRow.pinnedBy) = true := by kernel_rfl
theorem k30 : (Rows.polynomialAddsRow.veiled == (Try.f13.params.toList ++ Rows.polynomialAddsSpec.plain.varTypes Try.prog ++ Try.f13.resultTypes.toList).any (Try.prog.veiledRec ·)) = true := by kernel_rfl
theorem k31 : Rows.polynomialAddsRow.veiledFits Try.prog Try.f13.params.toList (Try.f13.params.toList ++ Rows.polynomialAddsSpec.plain.varTypes Try.prog ++ Try.f13.resultTypes.toList) = true := by kernel_rfl
theorem closedK : joinedFacts Try.prog 13 Try.f13 Rows.polynomialAddsSpec Rows.polynomialAddsRow = true := and_tt (and_tt (and_tt (and_tt (and_tt (and_tt (and_tt (and_tt (and_tt (and_tt (and_tt (and_tt (and_tt (and_tt (and_tt (and_tt (and_tt (and_tt (and_tt (and_tt (and_tt (and_tt (and_tt (and_tt (and_tt (and_tt (and_tt (and_tt (and_tt (and_tt (and_tt k0 fp_laid) fp_mapsRowed) k3) k4) k5) fp_stops) k7) fp_stopKnobs) k9) k10) k11) k12) k13) k14) k15) k16) k17) k18) k19) k20) k21) k22) k23) fp_stopsHeard) fp_mayEnter) k26) k27) k28) k29) k30) k31

theorem bytesInt : Try.prog.bytesOf 3 = 8 := by kernel_rfl
theorem open_slz {H : Type} {enc : TypeId × Value → H} {W : World} {b0 : Nat} {r : Reach} {v : Value} {d : DataW H} {p : List MemPlace}
    (hv : Value.okWide Try.prog W r b0 24 v) (h : DataW.Trod enc Try.prog W 0 (fun _ => true) true 24 v d p) : ∃ q : Sl, v = q.v ∧ q.R W ∧ (q.n = 0 ∨ ∃ elems spare, d = .slice elems spare ∧ q.n ≤ elems.length + spare.length) := by
  obtain ⟨q, rfl, hq⟩ := open_sl hv h
  refine ⟨q, rfl, hq, ?_⟩
  obtain ⟨fuel, hf⟩ := h
  rcases open_ints Try.underlying24 Try.underlying3 (by kernel_rfl) hf with ⟨hcs, _⟩ | ⟨a, len, cap, zs, hcs, _, hl, hm, hz, hx, _, _⟩
  · simp [Value.cells] at hcs
    exact .inl hcs.2.1
  · simp [Value.cells] at hcs
    obtain ⟨h1, h2, h3⟩ := hcs
    simp only [if_true] at hz
    injection hx with hx1 hx2
    refine .inr ⟨_, _, hx1, ?_⟩
    simp only [lits, List.length_map, List.length_take, List.length_drop]
    omega
theorem ownK : ownKnob Try.prog.godebug = none := by kernel_rfl
theorem laidK : laidOutB Try.prog = true := by kernel_rfl
set_option maxRecDepth 100000 in
set_option maxHeartbeats 1000000 in
theorem lifted (os : Os) (started : os.Started) (H : Type) (enc : TypeId × Value → H) :
    ReturnsInHanded {} Try.checked os 13 .any (Rows.polynomialAddsSpec.pre6 enc Try.prog Try.f13 Rows.polynomialAddsRow.domain false) (Rows.polynomialAddsSpec.post enc Try.prog Try.f13 false true false false) := by
  refine returnsInHanded_of_change_sized (C := Try.checked) ownK started (by kernel_rfl) Try.func13
    (ChangeSpec.witness6 (enc := enc) (C := Try.checked) false ⟨#[], #[.agg #[.int .i64 0, .int .i64 0, .int .i64 0], .slice none 0 0, .slice none 0 0, .int .i64 0], []⟩ 12 (by kernel_rfl) (by kernel_rfl) (by kernel_rfl) (by kernel_rfl)) ?_
  intro W base args ds gs before hval0 hW hcnd hsz0 _
  have hsz : (DataW.weightsEach Try.prog (Try.f13.params.toList ++ Rows.polynomialAddsSpec.plain.varTypes Try.prog) (ds ++ gs)).all (· ≤ reachBytes) = true := hsz0
  have hval : ∀ (j : Nat) t v, Try.f13.params[j]? = some t → args[j]? = some v → Value.okWide Try.prog W .any base t v := hval0
  have hW' := hW
  obtain ⟨p, q, hA0, hV, rfl, hfz, hnd⟩ := hW
  have hA : DataW.TrodAll enc Try.prog W 0 (fun _ => true) true Try.f13.params.toList args.toList ds p := hA0
  rw [Try.params13] at hA hval hsz
  obtain ⟨v0, vs0, d0, ds0, p0, q0, hargs, rfl, rfl, h0, r0⟩ := trodAll_cons hA
  obtain ⟨v1, vs1, d1, ds1, p1, q1, rfl, rfl, rfl, h1, r1⟩ := trodAll_cons r0
  obtain ⟨v2, vs2, d2, ds2, p2, q2, rfl, rfl, rfl, h2, r2⟩ := trodAll_cons r1
  obtain ⟨v3, vs3, d3, ds3, p3, q3, rfl, rfl, rfl, h3, r3⟩ := trodAll_cons r2
  obtain ⟨rfl, rfl, rfl⟩ := trodAll_nil r3
  obtain rfl : args = #[v0, v1, v2, v3] := by cases args; simp_all
  obtain ⟨rfl, rfl⟩ := trodVars_none hV
  have hrd : ∀ t ∈ Try.f13.params.toList, Try.prog.readableRec t = true ∧ t < Try.prog.types.size := by
    rw [Try.params13]
    intro t ht
    simp only [List.mem_cons, List.not_mem_nil, or_false] at ht
    rcases ht with rfl | rfl | rfl | rfl <;> exact ⟨by kernel_rfl, of_decide_eq_true (by kernel_rfl)⟩
  obtain ⟨c, s, p, rfl, bc, bs, bp⟩ := open_fld (hval 0 23 v0 rfl rfl) h0
  obtain ⟨q, rfl, hq, hqz⟩ := open_slz (hval 1 24 v1 rfl rfl) h1
  have hz : q.n * 8 ≤ 140737488355328 := by
    rcases hqz with h | ⟨elems, spare, rfl, h⟩
    · omega
    · have := sized_slice hsz (j := 1) (t := 24) (e := 3) rfl rfl Try.underlying24
      rw [bytesInt] at this
      simp only [reachBytes] at this
      omega
  obtain ⟨r, rfl, hr⟩ := open_sl (hval 2 24 v2 rfl rfl) h2
  obtain ⟨x, rfl, rfl, rfl, wx⟩ := open_int Try.underlying3 (hval 3 3 v3 rfl rfl) h3
  have bx := bd_i64 wx
  refine (law_walk c s p q r x W bc bs bp hq hr bx hz).mono fun e W' ⟨he, hb⟩ => ?_
  subst he
  exact ⟨_, rfl, law_post laidK Try.underlying4 rfl rfl hrd hW' rfl hb⟩
theorem over : Rows.polynomialAddsRow.holds Try.pinned (OpenSpec.ofChange Rows.polynomialAddsSpec) :=
  OpenClaim.holds_of_wide 13 Try.f13 rfl rfl rfl rfl rfl rfl rfl ⟨rfl, rfl, rfl, rfl, rfl⟩ rfl rfl rfl rfl rfl (by kernel_rfl) Try.func13 closedK
    (of_decide_eq_true (by kernel_rfl)) (by unfold Func.isWrapper; first | (rw [if_pos (by decide +kernel)]; kernel_rfl) | (rw [if_neg (by decide +kernel)]; exact ⟨rfl, rfl⟩))
    (fun os started H enc _ => lifted os started H enc)
/-- THE STATEMENT -/
theorem proved : Rows.PolynomialAddsSaid := over
end Go.Proofs.Ythpcneeidhmdkaa.polynomialAdds
