import Derived.Test.YtmnlkganmgcpbaaGreatDoorQa39
import Derived.Test.YtmnlkganmgcpbaaGreatDoorQa13
import Derived.Test.YtmnlkganmgcpbaaGreatDoorQa26
namespace Go.Proofs.YtmnlkganmgcpbaaGreatDoor
open Go.RowKit
set_option linter.unusedVariables false
set_option linter.unusedSectionVars false
set_option linter.unusedSimpArgs false
theorem enc_A (h : ∃ C, Cost (bA [65]) C) : encZ [65] 0 false 33 = (some (1, true), 0) ∧ (stuffL (txtL [65]) (sizeN 1)).length = 1 := by
  obtain ⟨C, hC⟩ := h
  have h5 : (txtL [65]).length = 5 := by
    rw [txtL_eq (by decide) hC, encP_len (by decide) hC]
    exact len_A hC
  obtain ⟨e, e1, e2, e3, e4, e5, e6, e7⟩ := unstuff_stuff (txtL [65]) 6 (by omega) (by omega) (by omega)
  have hk : (stuffL (txtL [65]) 6).length = 1 := by rw [h5] at e4 e5; omega
  refine ⟨?_, hk⟩
  have hp : pickS (txtL [65]) 33 0 false = some (1, true) := by
    have hok : okS (txtL [65]) 33 (1, true) = true := by
      unfold okS
      show fitB 1 true (stuffL (txtL [65]) 6).length _ 33 = true
      rw [hk, h5]
      decide
    show ((1, true) :: _ : List (Nat × Bool)).find? _ = _
    rw [List.find?_cons, hok]
  show (match pickS (txtL [65]) 33 0 false with | some p => (some p, (0 : Int)) | none => (none, 16)) = _
  rw [hp]
theorem exPath : (pathD 1 true).length = 104 ∧ (pathM 1 true).length = 28 ∧ (pathD 1 true).getD 3 (0, 0) = (1, 1) ∧ (pathM 1 true).getD 0 (0, 0) = (4, 2) ∧ pathE 1 true = 0 := ⟨by kernel_rfl, by kernel_rfl, by kernel_rfl, by kernel_rfl, by kernel_rfl⟩
set_option maxRecDepth 100000 in
set_option maxHeartbeats 4000000 in
theorem examples_any (w : World) : Calls Tryz.prog 11 #[] w fun e w' => e = .returned (.bool true) ∧ Below w.heap.size w w' := by
  have HS1 : Hid (∀ W, Calls Tryz.prog 13 #[.int .i64 1, .bool true] W fun e w' => e = .returned (.tuple #[.int .i64 15, .int .i64 0]) ∧ Below W.heap.size W w') := fun W => Side_any 1 true W
  have HS2 : Hid (∀ W, Calls Tryz.prog 13 #[.int .i64 5, .bool false] W fun e w' => e = .returned (.tuple #[.int .i64 37, .int .i64 0]) ∧ Below W.heap.size W w') := fun W => Side_any 5 false W
  have HS3 : Hid (∀ W, Calls Tryz.prog 13 #[.int .i64 32, .bool false] W fun e w' => e = .returned (.tuple #[.int .i64 151, .int .i64 0]) ∧ Below W.heap.size W w') := fun W => Side_any 32 false W
  have HW1 : Hid (∀ W, Calls Tryz.prog 16 #[.int .i64 1, .bool true] W fun e w' => e = .returned (.tuple #[.int .i64 6, .int .i64 17, .int .i64 0]) ∧ Below W.heap.size W w') := fun W => WordSize_any 1 true W
  have HW2 : Hid (∀ W, Calls Tryz.prog 16 #[.int .i64 32, .bool false] W fun e w' => e = .returned (.tuple #[.int .i64 12, .int .i64 1664, .int .i64 0]) ∧ Below W.heap.size W w') := fun W => WordSize_any 32 false W
  have HP : Hid (∀ W, Calls Tryz.prog 15 #[.int .i64 1, .bool true] W fun e w' => ∃ g o c g' o' c', e = .returned (.tuple #[.slice (some ⟨g, o, none⟩) 104 c, .slice (some ⟨g', o', none⟩) 28 c', .int .i64 0]) ∧ Below W.heap.size W w' ∧ Hid (g < w'.heap.size ∧ g' < w'.heap.size ∧ w'.cell? ⟨g, o + 6, none⟩ = some (.int .i64 1) ∧ w'.cell? ⟨g, o + 7, none⟩ = some (.int .i64 1) ∧ w'.cell? ⟨g', o', none⟩ = some (.int .i64 4) ∧ w'.cell? ⟨g', o' + 1, none⟩ = some (.int .i64 2))) := by
    show ∀ W, _
    intro W
    refine (Path_any 1 true W).mono ?_
    rintro e w' ⟨v, u, rfl, ⟨A, c, rfl, -, -, h1⟩, ⟨A', c', rfl, -, -, h2⟩, hb⟩
    obtain ⟨p1, p2, p3, p4, p5⟩ := exPath
    obtain ⟨g, o, rfl, hg, hc⟩ := h1 (by rw [p1]; omega)
    obtain ⟨g', o', rfl, hg', hc'⟩ := h2 (by rw [p2]; omega)
    have q1 := hc 3 (by rw [p1]; omega)
    have q2 := hc' 0 (by rw [p2]; omega)
    rw [p3] at q1
    rw [p4] at q2
    refine ⟨g, o, c, g', o', c', by rw [p1, p2, p5], hb, hg, hg', q1.1, q1.2, ?_, ?_⟩
    · have := q2.1; rw [Nat.zero_mul, Nat.add_zero] at this; exact this
    · have := q2.2; rw [Nat.zero_mul, Nat.add_zero] at this; exact this
  have HEN : Hid (∀ W : World, Calls Tryz.prog 12 #[.slice (some ⟨W.heap.size, 0, none⟩) 1 1, .agg #[.int .i64 0, .bool false, .int .i64 33]] (W.alloc (.cells #[.int .u8 65] 5 (1, 2))) fun e w' => ∃ A N cp, e = .returned (.tuple #[.agg #[.int .i64 1, .bool true, .int .i64 1, .int .i64 15, .int .i64 15, .slice A N cp], .int .i64 0]) ∧ Below W.heap.size W w') := by
    show ∀ W : World, _
    intro W
    have hs : SR vU 0 (W.alloc (.cells #[.int .u8 65] 5 (1, 2))) (some ⟨W.heap.size, 0, none⟩) 1 1 [65] := SR.litM (f := vU) (d := 0) W [65] 5 (1, 2) 1 rfl (by unfold maxLen; omega)
    refine (Encode_full (some ⟨W.heap.size, 0, none⟩) 1 1 [65] 0 false 33 _ hs (.inl (by decide))).mono ?_
    rintro e w' ⟨h1, v, rfl, hv, hb⟩
    obtain ⟨hz, hk⟩ := enc_A (h1 (by decide))
    rw [hz] at hv ⊢
    obtain ⟨A, N, cp, -, rfl, -⟩ := hv
    rw [hk]
    exact ⟨A, N, cp, rfl, bw1 hb⟩
  have kc := fun (w : World) (C : Array Value) (n c : Nat) => Lib.run_convert_bytes_const (P := Tryz.prog) w 22 5 C n c Tryz.underlying22 Tryz.underlying5
  go_enter Tryz.func11, Tryz.ntmps11
  go_wp2_with (first
    | (go_at_call 13; (with_reducible show Calls _ _ #[.int .i64 1, _] _ _); refine (HS1.out _).mono ?_; rintro e w1 ⟨rfl, hb1⟩; have HB1 : Hid (Below w.heap.size w w1) := hb1; clear hb1)
    | (go_at_call 13; (with_reducible show Calls _ _ #[.int .i64 5, _] _ _); refine (HS2.out _).mono ?_; rintro e w2 ⟨rfl, hb2⟩; have HB2 : Hid (Below w.heap.size w w2) := bwStep HB1.out hb2; clear hb2)
    | (go_at_call 13; (with_reducible show Calls _ _ #[.int .i64 32, _] _ _); refine (HS3.out _).mono ?_; rintro e w3 ⟨rfl, hb3⟩; have HB3 : Hid (Below w.heap.size w w3) := bwStep HB2.out hb3; clear hb3)
    | (go_at_call 16; (with_reducible show Calls _ _ #[.int .i64 1, _] _ _); refine (HW1.out _).mono ?_; rintro e w4 ⟨rfl, hb4⟩; have HB4 : Hid (Below w.heap.size w w4) := bwStep HB3.out hb4; clear hb4)
    | (go_at_call 16; (with_reducible show Calls _ _ #[.int .i64 32, _] _ _); refine (HW2.out _).mono ?_; rintro e w5 ⟨rfl, hb5⟩; have HB5 : Hid (Below w.heap.size w w5) := bwStep HB4.out hb5; clear hb5)
    | (go_at_call 15; refine (HP.out _).mono ?_; rintro e w6 ⟨g, o, c, g', o', c', rfl, hb6, HCC⟩; have HB6 : Hid (Below w.heap.size w w6) := bwStep HB5.out hb6; clear hb6)
    | (go_at_call 12; refine (HEN.out w6).mono ?_; rintro e w7 ⟨A, N, cp, rfl, hb7⟩; have HB7 := Lib.hid hb7; have HB8 : Hid (Below w6.heap.size w6 (w7.alloc (.cells #[.int .i64 1, .bool true, .int .i64 1, .int .i64 15, .int .i64 15, .slice A N cp] 30))) := bwAlloc HB7.out _; have q1 := (HB8.out.cell (p := ⟨g, o + 6, none⟩) HCC.out.1).trans HCC.out.2.2.1; have q2 := (HB8.out.cell (p := ⟨g, o + 7, none⟩) HCC.out.1).trans HCC.out.2.2.2.1; have q3 := (HB8.out.cell (p := ⟨g', o', none⟩) HCC.out.2.1).trans HCC.out.2.2.2.2.1; have q4 := (HB8.out.cell (p := ⟨g', o' + 1, none⟩) HCC.out.2.1).trans HCC.out.2.2.2.2.2; clear hb7))
  go_ret
  exact ⟨rfl, bwStep HB6.out HB8.out⟩
end Go.Proofs.YtmnlkganmgcpbaaGreatDoor
namespace Go.Proofs.YtmnlkganmgcpbaaGreatDoor
open Go.RowKit
set_option linter.unusedVariables false
set_option linter.unusedSectionVars false
set_option linter.unusedSimpArgs false
set_option maxHeartbeats 2000000 in
theorem SamePoints_any (v u : Value) (a b : List Pt) (w : World) (ha : SP w v a) (hb : SP w u b) :
    Calls Tryz.prog 20 #[v, u] w fun e w' => e = .returned (.bool (decide (a = b))) ∧ Below w.heap.size w w' := by
  obtain ⟨A, c, rfl, hc1, hc2, hA⟩ := ha
  obtain ⟨B, k, rfl, hk1, hk2, hB⟩ := hb
  obtain ⟨n, hn⟩ : ∃ n, n = a.length := ⟨_, rfl⟩
  obtain ⟨m, hm⟩ : ∃ m, m = b.length := ⟨_, rfl⟩
  rw [← hn] at hc1 ⊢
  rw [← hm] at hk1 ⊢
  have HN := Lib.hid hn
  have HM := Lib.hid hm
  have HA := Lib.hid hA
  have HB := Lib.hid hB
  have hn63 : n ≤ 9223372036854775807 := by unfold maxLen at *; omega
  clear hA hB hc1 hc2 hk1 hk2 hn hm
  by_cases hnm : n = m
  · subst hnm
    go_enter Tryz.func20, Tryz.ntmps20
    go_wp2
    go_loopw [5] (fun iv wr => ∃ j : Nat, j ≤ n ∧ iv = .int .i64 j ∧ Hid (Abv w wr) ∧ Hid (∀ i, i < j → a.getD i (0, 0) = b.getD i (0, 0))) (fun iv _ => n - (intOf iv).toNat)
    case atStart => exact ⟨0, Nat.zero_le _, rfl, Below.refl _ _, fun i hi => by omega⟩
    case round =>
      obtain ⟨j, hj, rfl, hW, hE⟩ := hrel
      by_cases hlt : j < n
      · obtain ⟨ga, oa, rfl, hadw, hca⟩ := HA.out (by rw [← HN.out]; omega)
        obtain ⟨gb, ob, rfl, hbdw, hcb⟩ := HB.out (by rw [← HM.out]; omega)
        have hx := hca j (by rw [← HN.out]; exact hlt)
        have hy := hcb j (by rw [← HM.out]; exact hlt)
        have CF : Hid (∀ W, Abv wr W → (W.cell? ⟨ga, oa + j * 2, none⟩ = some (.int .i64 ((a.getD j (0, 0)).1 : Int)) ∧ W.cell? ⟨ga, oa + j * 2 + 1, none⟩ = some (.int .i64 ((a.getD j (0, 0)).2 : Int))) ∧ (W.cell? ⟨gb, ob + j * 2, none⟩ = some (.int .i64 ((b.getD j (0, 0)).1 : Int)) ∧ W.cell? ⟨gb, ob + j * 2 + 1, none⟩ = some (.int .i64 ((b.getD j (0, 0)).2 : Int)))) := by
          show ∀ W, _
          intro W hW2
          have h0 := bwStep hW.out hW2
          exact ⟨⟨(h0.cell hadw).trans hx.1, (h0.cell hadw).trans hx.2⟩, ⟨(h0.cell hbdw).trans hy.1, (h0.cell hbdw).trans hy.2⟩⟩
        clear hca hcb hx hy
        have HD : Hid (a.getD j (0, 0) ≠ b.getD j (0, 0) → decide (a = b) = false) := by
          show _ → _
          intro h
          rw [decide_eq_false_iff_not]
          intro e; rw [e] at h; exact h rfl
        have HJ : Hid (a.getD j (0, 0) = b.getD j (0, 0) → ∀ i, i < j + 1 → a.getD i (0, 0) = b.getD i (0, 0)) := by
          show _ → _
          intro h i hi
          rcases Nat.lt_or_ge i j with h1 | h1
          · exact hE.out i h1
          · obtain rfl : i = j := by omega
            exact h
        generalize a.getD j (0, 0) = x at *
        generalize b.getD j (0, 0) = y at *
        have HD0 : Hid (Abv wr wr.drew) := bwDrew (Below.refl _ _)
        go_wp2
        refine wp_region_W (S := Abv wr) [(false, 0), (false, 1), (false, 2), (false, 3), (false, 4), (false, 5), (false, 6), (false, 7), (false, 8)] (by kernel_rfl) (by kernel_rfl) HD0.out ?_
        simp only [attachW, List.getElem?_cons_zero, List.getElem?_cons_succ]
        refine' wpHX_val rfl (fun W hW => ?_) ?_
        rotate_left
        · have hcf := CF.out W hW; go_simp; rfl
        simp only [Act.put, List.setIfInBounds_toArray, List.set_cons_zero, List.set_cons_succ]
        refine' wpHX_val rfl (fun W hW => ?_) ?_
        rotate_left
        · have hcf := CF.out W hW; go_simp; rfl
        simp only [Act.put, List.setIfInBounds_toArray, List.set_cons_zero, List.set_cons_succ]
        refine' wpHX_val rfl (fun W hW => ?_) ?_
        rotate_left
        · have hcf := CF.out W hW; go_simp; rfl
        simp only [Act.put, List.setIfInBounds_toArray, List.set_cons_zero, List.set_cons_succ]
        refine' wpHX_val rfl (fun W hW => ?_) ?_
        rotate_left
        · have hcf := CF.out W hW; go_simp; rfl
        simp only [Act.put, List.setIfInBounds_toArray, List.set_cons_zero, List.set_cons_succ]
        refine' wpHX_val rfl (fun W hW => ?_) ?_
        rotate_left
        · have hcf := CF.out W hW; go_simp; rfl
        simp only [Act.put, List.setIfInBounds_toArray, List.set_cons_zero, List.set_cons_succ]
        refine' wpHX_val rfl (fun W hW => ?_) ?_
        rotate_left
        · have hcf := CF.out W hW; go_simp; rfl
        simp only [Act.put, List.setIfInBounds_toArray, List.set_cons_zero, List.set_cons_succ]
        refine' wpHX_val rfl (fun W hW => ?_) ?_
        rotate_left
        · have hcf := CF.out W hW; go_simp; rfl
        simp only [Act.put, List.setIfInBounds_toArray, List.set_cons_zero, List.set_cons_succ]
        refine' wpHX_val rfl (fun W hW => ?_) ?_
        rotate_left
        · have hcf := CF.out W hW; go_simp; rfl
        simp only [Act.put, List.setIfInBounds_toArray, List.set_cons_zero, List.set_cons_succ]
        by_cases hxy : x = y
        · refine' wpHX_val (v := .bool false) rfl (fun W hW => ?_) ?_
          · have hcf := CF.out W hW
            simp only [hxy] at hcf
            go_simp
          simp only [Act.put, List.setIfInBounds_toArray, List.set_cons_zero, List.set_cons_succ]
          refine wpHX_nil ?_
          have HJ1 := Lib.hid (HJ.out hxy)
          clear hxy HD HJ
          go_wp2
          exact ⟨⟨j + 1, by omega, by go_num, bwStep hW.out HD0.out, HJ1.out⟩, by simp [intOf]; omega⟩
        · refine' wpHX_val (v := .bool true) rfl (fun W hW => ?_) ?_
          · have hcf := CF.out W hW
            go_simp
            have h9 : ¬ ((x.1 : Int) = (y.1 : Int) ∧ (x.2 : Int) = (y.2 : Int)) := fun h => hxy (Prod.ext (by omega) (by omega))
            exact fun h1 h2 => h9 ⟨h1, h2⟩
          simp only [Act.put, List.setIfInBounds_toArray, List.set_cons_zero, List.set_cons_succ]
          refine wpHX_nil ?_
          have HD1 := Lib.hid (HD.out hxy)
          clear hxy HD HJ
          go_wp2
          go_ret
          exact ⟨by rw [HD1.out]; rfl, bwStep hW.out HD0.out⟩
      · obtain rfl : j = n := by omega
        have HT : Hid (decide (a = b) = true) := by
          show _ = _
          rw [decide_eq_true_eq]
          apply List.ext_getElem (by rw [← HN.out, ← HM.out])
          intro i h1 h2
          have := hE.out i (by rw [HN.out]; exact h1)
          simpa [List.getD, h1, h2] using this
        go_wp2
        go_ret
        exact ⟨by rw [HT.out]; rfl, hW.out⟩
  · have HF : Hid (decide (a = b) = false) := by
      show _ = _
      rw [decide_eq_false_iff_not]
      intro e
      apply hnm
      rw [HN.out, HM.out, e]
    have hz : ((n : Int) == m) = false := by rw [beq_eq_false_iff_ne]; omega
    go_enter Tryz.func20, Tryz.ntmps20
    go_wp2
    go_ret
    exact ⟨by rw [HF.out]; rfl, Below.refl _ _⟩
end Go.Proofs.YtmnlkganmgcpbaaGreatDoor
