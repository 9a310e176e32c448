import Derived.Test.YtmnlkganmgcpbaaGreatDoorQa39
import Derived.Test.YtmnlkganmgcpbaaGreatDoorQa13
import Derived.Test.YtmnlkganmgcpbaaGreatDoorQa26
namespace Go.Proofs.YtmnlkganmgcpbaaGreatDoor
open Go.RowKit
set_option linter.unusedVariables false
set_option linter.unusedSectionVars false
set_option linter.unusedSimpArgs false
theorem enc_A (h : ∃ C, Cost (bA [65]) C) : encZ [65] 0 false 33 = (some (1, true), 0) ∧ (stuffL (txtL [65]) (sizeN 1)).length = 1 := by
  obtain ⟨C, hC⟩ := h
  have h5 : (txtL [65]).length = 5 := by
    rw [txtL_eq (by decide) hC, encP_len (by decide) hC]
    exact len_A hC
  obtain ⟨e, e1, e2, e3, e4, e5, e6, e7⟩ := unstuff_stuff (txtL [65]) 6 (by omega) (by omega) (by omega)
  have hk : (stuffL (txtL [65]) 6).length = 1 := by rw [h5] at e4 e5; omega
  refine ⟨?_, hk⟩
  have hp : pickS (txtL [65]) 33 0 false = some (1, true) := by
    have hok : okS (txtL [65]) 33 (1, true) = true := by
      unfold okS
      show fitB 1 true (stuffL (txtL [65]) 6).length _ 33 = true
      rw [hk, h5]
      decide
    show ((1, true) :: _ : List (Nat × Bool)).find? _ = _
    rw [List.find?_cons, hok]
  show (match pickS (txtL [65]) 33 0 false with | some p => (some p, (0 : Int)) | none => (none, 16)) = _
  rw [hp]
theorem exPath : (pathD 1 true).length = 104 ∧ (pathM 1 true).length = 28 ∧ (pathD 1 true).getD 3 (0, 0) = (1, 1) ∧ (pathM 1 true).getD 0 (0, 0) = (4, 2) ∧ pathE 1 true = 0 := ⟨by kernel_rfl, by kernel_rfl, by kernel_rfl, by kernel_rfl, by kernel_rfl⟩
set_option maxRecDepth 100000 in
set_option maxHeartbeats 4000000 in
theorem examples_any (w : World) : Calls Tryz.prog 11 #[] w fun e w' => e = .returned (.bool true) ∧ Below w.heap.size w w' := by
  have HS1 : Hid (∀ W, Calls Tryz.prog 13 #[.int .i64 1, .bool true] W fun e w' => e = .returned (.tuple #[.int .i64 15, .int .i64 0]) ∧ Below W.heap.size W w') := fun W => Side_any 1 true W
  have HS2 : Hid (∀ W, Calls Tryz.prog 13 #[.int .i64 5, .bool false] W fun e w' => e = .returned (.tuple #[.int .i64 37, .int .i64 0]) ∧ Below W.heap.size W w') := fun W => Side_any 5 false W
  have HS3 : Hid (∀ W, Calls Tryz.prog 13 #[.int .i64 32, .bool false] W fun e w' => e = .returned (.tuple #[.int .i64 151, .int .i64 0]) ∧ Below W.heap.size W w') := fun W => Side_any 32 false W
  have HW1 : Hid (∀ W, Calls Tryz.prog 16 #[.int .i64 1, .bool true] W fun e w' => e = .returned (.tuple #[.int .i64 6, .int .i64 17, .int .i64 0]) ∧ Below W.heap.size W w') := fun W => WordSize_any 1 true W
  have HW2 : Hid (∀ W, Calls Tryz.prog 16 #[.int .i64 32, .bool false] W fun e w' => e = .returned (.tuple #[.int .i64 12, .int .i64 1664, .int .i64 0]) ∧ Below W.heap.size W w') := fun W => WordSize_any 32 false W
  have HP : Hid (∀ W, Calls Tryz.prog 15 #[.int .i64 1, .bool true] W fun e w' => ∃ g o c g' o' c', e = .returned (.tuple #[.slice (some ⟨g, o, none⟩) 104 c, .slice (some ⟨g', o', none⟩) 28 c', .int .i64 0]) ∧ Below W.heap.size W w' ∧ Hid (g < w'.heap.size ∧ g' < w'.heap.size ∧ w'.cell? ⟨g, o + 6, none⟩ = some (.int .i64 1) ∧ w'.cell? ⟨g, o + 7, none⟩ = some (.int .i64 1) ∧ w'.cell? ⟨g', o', none⟩ = some (.int .i64 4) ∧ w'.cell? ⟨g', o' + 1, none⟩ = some (.int .i64 2))) := by
    show ∀ W, _
    intro W
    refine (Path_any 1 true W).mono ?_
    rintro e w' ⟨v, u, rfl, ⟨A, c, rfl, -, -, h1⟩, ⟨A', c', rfl, -, -, h2⟩, hb⟩
    obtain ⟨p1, p2, p3, p4, p5⟩ := exPath
    obtain ⟨g, o, rfl, hg, hc⟩ := h1 (by rw [p1]; omega)
    obtain ⟨g', o', rfl, hg', hc'⟩ := h2 (by rw [p2]; omega)
    have q1 := hc 3 (by rw [p1]; omega)
    have q2 := hc' 0 (by rw [p2]; omega)
    rw [p3] at q1
    rw [p4] at q2
    refine ⟨g, o, c, g', o', c', by rw [p1, p2, p5], hb, hg, hg', q1.1, q1.2, ?_, ?_⟩
    · have := q2.1; rw [Nat.zero_mul, Nat.add_zero] at this; exact this
    · have := q2.2; rw [Nat.zero_mul, Nat.add_zero] at this; exact this
  have HEN : Hid (∀ W : World, Calls Tryz.prog 12 #[.slice (some ⟨W.heap.size, 0, none⟩) 1 1, .agg #[.int .i64 0, .bool false, .int .i64 33]] (W.alloc (.cells #[.int .u8 65] 5 (1, 2))) fun e w' => ∃ A N cp, e = .returned (.tuple #[.agg #[.int .i64 1, .bool true, .int .i64 1, .int .i64 15, .int .i64 15, .slice A N cp], .int .i64 0]) ∧ Below W.heap.size W w') := by
    show ∀ W : World, _
    intro W
    have hs : SR vU 0 (W.alloc (.cells #[.int .u8 65] 5 (1, 2))) (some ⟨W.heap.size, 0, none⟩) 1 1 [65] := SR.litM (f := vU) (d := 0) W [65] 5 (1, 2) 1 rfl (by unfold maxLen; omega)
    refine (Encode_full (some ⟨W.heap.size, 0, none⟩) 1 1 [65] 0 false 33 _ hs (.inl (by decide))).mono ?_
    rintro e w' ⟨h1, v, rfl, hv, hb⟩
    obtain ⟨hz, hk⟩ := enc_A (h1 (by decide))
    rw [hz] at hv ⊢
    obtain ⟨A, N, cp, -, rfl, -⟩ := hv
    rw [hk]
    exact ⟨A, N, cp, rfl, bw1 hb⟩
  have kc := fun (w : World) (C : Array Value) (n c : Nat) => Lib.run_convert_bytes_const (P := Tryz.prog) w 22 5 C n c Tryz.underlying22 Tryz.underlying5
  go_enter Tryz.func11, Tryz.ntmps11
  go_wp2_with (first
    | (go_at_call 13; (with_reducible show Calls _ _ #[.int .i64 1, _] _ _); refine (HS1.out _).mono ?_; rintro e w1 ⟨rfl, hb1⟩; have HB1 : Hid (Below w.heap.size w w1) := hb1; clear hb1)
    | (go_at_call 13; (with_reducible show Calls _ _ #[.int .i64 5, _] _ _); refine (HS2.out _).mono ?_; rintro e w2 ⟨rfl, hb2⟩; have HB2 : Hid (Below w.heap.size w w2) := bwStep HB1.out hb2; clear hb2)
    | (go_at_call 13; (with_reducible show Calls _ _ #[.int .i64 32, _] _ _); refine (HS3.out _).mono ?_; rintro e w3 ⟨rfl, hb3⟩; have HB3 : Hid (Below w.heap.size w w3) := bwStep HB2.out hb3; clear hb3)
    | (go_at_call 16; (with_reducible show Calls _ _ #[.int .i64 1, _] _ _); refine (HW1.out _).mono ?_; rintro e w4 ⟨rfl, hb4⟩; have HB4 : Hid (Below w.heap.size w w4) := bwStep HB3.out hb4; clear hb4)
    | (go_at_call 16; (with_reducible show Calls _ _ #[.int .i64 32, _] _ _); refine (HW2.out _).mono ?_; rintro e w5 ⟨rfl, hb5⟩; have HB5 : Hid (Below w.heap.size w w5) := bwStep HB4.out hb5; clear hb5)
    | (go_at_call 15; refine (HP.out _).mono ?_; rintro e w6 ⟨g, o, c, g', o', c', rfl, hb6, HCC⟩; have HB6 : Hid (Below w.heap.size w w6) := bwStep HB5.out hb6; clear hb6)
    | (go_at_call 12; refine (HEN.out w6).mono ?_; rintro e w7 ⟨A, N, cp, rfl, hb7⟩; have HB7 := Lib.hid hb7; have HB8 : Hid (Below w6.heap.size w6 (w7.alloc (.cells #[.int .i64 1, .bool true, .int .i64 1, .int .i64 15, .int .i64 15, .slice A N cp] 30))) := bwAlloc HB7.out _; have q1 := (HB8.out.cell (p := ⟨g, o + 6, none⟩) HCC.out.1).trans HCC.out.2.2.1; have q2 := (HB8.out.cell (p := ⟨g, o + 7, none⟩) HCC.out.1).trans HCC.out.2.2.2.1; have q3 := (HB8.out.cell (p := ⟨g', o', none⟩) HCC.out.2.1).trans HCC.out.2.2.2.2.1; have q4 := (HB8.out.cell (p := ⟨g', o' + 1, none⟩) HCC.out.2.1).trans HCC.out.2.2.2.2.2; clear hb7))
  go_ret
  exact ⟨rfl, bwStep HB6.out HB8.out⟩
end Go.Proofs.YtmnlkganmgcpbaaGreatDoor
namespace Go.Proofs.YtmnlkganmgcpbaaGreatDoor
open Go.RowKit
set_option linter.unusedVariables false
set_option linter.unusedSectionVars false
set_option linter.unusedSimpArgs false
set_option maxHeartbeats 2000000 in
theorem SamePoints_any (v u : Value) (a b : List Pt) (w : World) (ha : SP w v a) (hb : SP w u b) :
    Calls Tryz.prog 20 #[v, u] w fun e w' => e = .returned (.bool (decide (a = b))) ∧ Below w.heap.size w w' := by
  obtain ⟨A, c, rfl, hc1, hc2, hA⟩ := ha
  obtain ⟨B, k, rfl, hk1, hk2, hB⟩ := hb
  obtain ⟨n, hn⟩ : ∃ n, n = a.length := ⟨_, rfl⟩
  obtain ⟨m, hm⟩ : ∃ m, m = b.length := ⟨_, rfl⟩
  rw [← hn] at hc1 ⊢
  rw [← hm] at hk1 ⊢
  have HN := Lib.hid hn
  have HM := Lib.hid hm
  have HA := Lib.hid hA
  have HB := Lib.hid hB
  have hn63 : n ≤ 9223372036854775807 := by unfold maxLen at *; omega
  clear hA hB hc1 hc2 hk1 hk2 hn hm
  by_cases hnm : n = m
  · subst hnm
    go_enter Tryz.func20, Tryz.ntmps20
    go_wp2
    go_loopw [5] (fun iv wr => ∃ j : Nat, j ≤ n ∧ iv = .int .i64 j ∧ Hid (Abv w wr) ∧ Hid (∀ i, i < j → a.getD i (0, 0) = b.getD i (0, 0))) (fun iv _ => n - (intOf iv).toNat)
    case atStart => exact ⟨0, Nat.zero_le _, rfl, Below.refl _ _, fun i hi => by omega⟩
    case round =>
      obtain ⟨j, hj, rfl, hW, hE⟩ := hrel
      by_cases hlt : j < n
      · obtain ⟨ga, oa, rfl, hadw, hca⟩ := HA.out (by rw [← HN.out]; omega)
        obtain ⟨gb, ob, rfl, hbdw, hcb⟩ := HB.out (by rw [← HM.out]; omega)
        have hx := hca j (by rw [← HN.out]; exact hlt)
        have hy := hcb j (by rw [← HM.out]; exact hlt)
        have CF : Hid (∀ W, Abv wr W → (W.cell? ⟨ga, oa + j * 2, none⟩ = some (.int .i64 ((a.getD j (0, 0)).1 : Int)) ∧ W.cell? ⟨ga, oa + j * 2 + 1, none⟩ = some (.int .i64 ((a.getD j (0, 0)).2 : Int))) ∧ (W.cell? ⟨gb, ob + j * 2, none⟩ = some (.int .i64 ((b.getD j (0, 0)).1 : Int)) ∧ W.cell? ⟨gb, ob + j * 2 + 1, none⟩ = some (.int .i64 ((b.getD j (0, 0)).2 : Int)))) := by
          show ∀ W, _
          intro W hW2
          have h0 := bwStep hW.out hW2
          exact ⟨⟨(h0.cell hadw).trans hx.1, (h0.cell hadw).trans hx.2⟩, ⟨(h0.cell hbdw).trans hy.1, (h0.cell hbdw).trans hy.2⟩⟩
        clear hca hcb hx hy
        have HD : Hid (a.getD j (0, 0) ≠ b.getD j (0, 0) → decide (a = b) = false) := by
          show _ → _
          intro h
          rw [decide_eq_false_iff_not]
          intro e; rw [e] at h; exact h rfl
        have HJ : Hid (a.getD j (0, 0) = b.getD j (0, 0) → ∀ i, i < j + 1 → a.getD i (0, 0) = b.getD i (0, 0)) := by
          show _ → _
          intro h i hi
          rcases Nat.lt_or_ge i j with h1 | h1
          · exact hE.out i h1
          · obtain rfl : i = j := by omega
            exact h
        generalize a.getD j (0, 0) = x at *
        generalize b.getD j (0, 0) = y at *
        have HD0 : Hid (Abv wr wr.drew) := bwDrew (Below.refl _ _)
        go_wp2
        refine wp_region_W (S := Abv wr) [(false, 0), (false, 1), (false, 2), (false, 3), (false, 4), (false, 5), (false, 6), (false, 7), (false, 8)] (by kernel_rfl) (by kernel_rfl) HD0.out ?_
        simp only [attachW, List.getElem?_cons_zero, List.getElem?_cons_succ]
        refine' wpHX_val rfl (fun W hW => ?_) ?_
        rotate_left
        · have hcf := CF.out W hW; go_simp; rfl
        simp only [Act.put, List.setIfInBounds_toArray, List.set_cons_zero, List.set_cons_succ]
        refine' wpHX_val rfl (fun W hW => ?_) ?_
        rotate_left
        · have hcf := CF.out W hW; go_simp; rfl
        simp only [Act.put, List.setIfInBounds_toArray, List.set_cons_zero, List.set_cons_succ]
        refine' wpHX_val rfl (fun W hW => ?_) ?_
        rotate_left
        · have hcf := CF.out W hW; go_simp; rfl
        simp only [Act.put, List.setIfInBounds_toArray, List.set_cons_zero, List.set_cons_succ]
        refine' wpHX_val rfl (fun W hW => ?_) ?_
        rotate_left
        · have hcf := CF.out W hW; go_simp; rfl
        simp only [Act.put, List.setIfInBounds_toArray, List.set_cons_zero, List.set_cons_succ]
        refine' wpHX_val rfl (fun W hW => ?_) ?_
        rotate_left
        · have hcf := CF.out W hW; go_simp; rfl
        simp only [Act.put, List.setIfInBounds_toArray, List.set_cons_zero, List.set_cons_succ]
        refine' wpHX_val rfl (fun W hW => ?_) ?_
        rotate_left
        · have hcf := CF.out W hW; go_simp; rfl
        simp only [Act.put, List.setIfInBounds_toArray, List.set_cons_zero, List.set_cons_succ]
        refine' wpHX_val rfl (fun W hW => ?_) ?_
        rotate_left
        · have hcf := CF.out W hW; go_simp; rfl
        simp only [Act.put, List.setIfInBounds_toArray, List.set_cons_zero, List.set_cons_succ]
        refine' wpHX_val rfl (fun W hW => ?_) ?_
        rotate_left
        · have hcf := CF.out W hW; go_simp; rfl
        simp only [Act.put, List.setIfInBounds_toArray, List.set_cons_zero, List.set_cons_succ]
        by_cases hxy : x = y
        · refine' wpHX_val (v := .bool false) rfl (fun W hW => ?_) ?_
          · have hcf := CF.out W hW
            simp only [hxy] at hcf
            go_simp
          simp only [Act.put, List.setIfInBounds_toArray, List.set_cons_zero, List.set_cons_succ]
          refine wpHX_nil ?_
          have HJ1 := Lib.hid (HJ.out hxy)
          clear hxy HD HJ
          go_wp2
          exact ⟨⟨j + 1, by omega, by go_num, bwStep hW.out HD0.out, HJ1.out⟩, by simp [intOf]; omega⟩
        · refine' wpHX_val (v := .bool true) rfl (fun W hW => ?_) ?_
          · have hcf := CF.out W hW
            go_simp
            have h9 : ¬ ((x.1 : Int) = (y.1 : Int) ∧ (x.2 : Int) = (y.2 : Int)) := fun h => hxy (Prod.ext (by omega) (by omega))
            exact fun h1 h2 => h9 ⟨h1, h2⟩
          simp only [Act.put, List.setIfInBounds_toArray, List.set_cons_zero, List.set_cons_succ]
          refine wpHX_nil ?_
          have HD1 := Lib.hid (HD.out hxy)
          clear hxy HD HJ
          go_wp2
          go_ret
          exact ⟨by rw [HD1.out]; rfl, bwStep hW.out HD0.out⟩
      · obtain rfl : j = n := by omega
        have HT : Hid (decide (a = b) = true) := by
          show _ = _
          rw [decide_eq_true_eq]
          apply List.ext_getElem (by rw [← HN.out, ← HM.out])
          intro i h1 h2
          have := hE.out i (by rw [HN.out]; exact h1)
          simpa [List.getD, h1, h2] using this
        go_wp2
        go_ret
        exact ⟨by rw [HT.out]; rfl, hW.out⟩
  · have HF : Hid (decide (a = b) = false) := by
      show _ = _
      rw [decide_eq_false_iff_not]
      intro e
      apply hnm
      rw [HN.out, HM.out, e]
    have hz : ((n : Int) == m) = false := by rw [beq_eq_false_iff_ne]; omega
    go_enter Tryz.func20, Tryz.ntmps20
    go_wp2
    go_ret
    exact ⟨by rw [HF.out]; rfl, Below.refl _ _⟩
set_option maxHeartbeats 1000000 in
theorem SameBits_any (A : Option Addr) (n c : Nat) (a : List Bool) (B : Option Addr) (m k : Nat) (b : List Bool) (w : World) (ha : SR vB false w A n c a) (hb : SR vB false w B m k b) :
    Calls Tryz.prog 27 #[.slice A n c, .slice B m k] w fun e w' => e = .returned (.bool (decide (a = b))) ∧ Below w.heap.size w w' := by
  have HN : Hid (n = a.length) := ha.hn
  have HM : Hid (m = b.length) := hb.hn
  have hn63 : n ≤ 9223372036854775807 := by have := ha.hm; have := ha.hc; unfold maxLen at *; omega
  have HA := Lib.hid ha.rd
  have HB := Lib.hid hb.rd
  clear ha hb
  by_cases hnm : n = m
  · subst hnm
    go_enter Tryz.func27, Tryz.ntmps27
    go_wp2
    go_loopw [5] (fun iv wr => ∃ j : Nat, j ≤ n ∧ iv = .int .i64 j ∧ Hid (Abv w wr) ∧ Hid (∀ i, i < j → a.getD i false = b.getD i false)) (fun iv _ => n - (intOf iv).toNat)
    case atStart => exact ⟨0, Nat.zero_le _, rfl, Below.refl _ _, fun i hi => by omega⟩
    case round =>
      obtain ⟨j, hj, rfl, hW, hE⟩ := hrel
      by_cases hlt : j < n
      · obtain ⟨ad, rfl, hadw, hca⟩ := HA.out (by rw [← HN.out]; omega)
        obtain ⟨bd, rfl, hbdw, hcb⟩ := HB.out (by rw [← HM.out]; omega)
        have CF : Hid (∀ W, Abv wr W → W.cell? (ad.add j) = some (.bool (a.getD j false)) ∧ W.cell? (bd.add j) = some (.bool (b.getD j false))) := by
          show ∀ W, _
          intro W hW2
          have h0 := bwStep hW.out hW2
          exact ⟨(h0.cell (by rw [block_of_add]; exact hadw)).trans (hca j (by rw [← HN.out]; exact hlt)), (h0.cell (by rw [block_of_add]; exact hbdw)).trans (hcb j (by rw [← HM.out]; exact hlt))⟩
        clear hca hcb
        have HD : Hid (a.getD j false ≠ b.getD j false → decide (a = b) = false) := by
          show _ → _
          intro h
          rw [decide_eq_false_iff_not]
          intro e; rw [e] at h; exact h rfl
        have HJ : Hid (a.getD j false = b.getD j false → ∀ i, i < j + 1 → a.getD i false = b.getD i false) := by
          show _ → _
          intro h i hi
          rcases Nat.lt_or_ge i j with h1 | h1
          · exact hE.out i h1
          · obtain rfl : i = j := by omega
            exact h
        generalize a.getD j false = x at *
        generalize b.getD j false = y at *
        have HD0 : Hid (Abv wr wr.drew) := bwDrew (Below.refl _ _)
        cases hxy : (x == y) with
        | true =>
          have HXY : Hid (x = y) := beq_iff_eq.1 hxy
          have hne : (x != y) = false := by rw [bne, hxy]; rfl
          go_wp2
          refine wp_region_W (S := Abv wr) [(false, 0), (false, 1), (false, 2), (false, 3), (false, 4), (false, 5), (false, 6), (false, 7), (false, 8)] (by kernel_rfl) (by kernel_rfl) HD0.out ?_
          simp only [attachW, List.getElem?_cons_zero, List.getElem?_cons_succ]
          repeat
            refine' wpHX_val rfl (fun W hW => ?_) ?_
            rotate_left
            · have hcf := CF.out W hW; go_simp; rfl
            simp only [Act.put, List.setIfInBounds_toArray, List.set_cons_zero, List.set_cons_succ]
          refine wpHX_nil ?_
          go_wp2
          exact ⟨⟨j + 1, by omega, by go_num, bwStep hW.out HD0.out, HJ.out HXY.out⟩, by simp [intOf]; omega⟩
        | false =>
          have HXY : Hid (x ≠ y) := beq_eq_false_iff_ne.1 hxy
          have hne : (x != y) = true := by rw [bne, hxy]; rfl
          go_wp2
          refine wp_region_W (S := Abv wr) [(false, 0), (false, 1), (false, 2), (false, 3), (false, 4), (false, 5), (false, 6), (false, 7), (false, 8)] (by kernel_rfl) (by kernel_rfl) HD0.out ?_
          simp only [attachW, List.getElem?_cons_zero, List.getElem?_cons_succ]
          repeat
            refine' wpHX_val rfl (fun W hW => ?_) ?_
            rotate_left
            · have hcf := CF.out W hW; go_simp; rfl
            simp only [Act.put, List.setIfInBounds_toArray, List.set_cons_zero, List.set_cons_succ]
          refine wpHX_nil ?_
          go_wp2
          go_ret
          exact ⟨by rw [HD.out HXY.out]; rfl, bwStep hW.out HD0.out⟩
      · obtain rfl : j = n := by omega
        have HT : Hid (decide (a = b) = true) := by
          show _ = _
          rw [decide_eq_true_eq]
          apply List.ext_getElem (by rw [← HN.out, ← HM.out])
          intro i h1 h2
          have := hE.out i (by rw [HN.out]; exact h1)
          simpa [List.getD, h1, h2] using this
        go_wp2
        go_ret
        exact ⟨by rw [HT.out]; rfl, hW.out⟩
  · have HF : Hid (decide (a = b) = false) := by
      show _ = _
      rw [decide_eq_false_iff_not]
      intro e
      apply hnm
      rw [HN.out, HM.out, e]
    have hz : ((n : Int) == m) = false := by rw [beq_eq_false_iff_ne]; omega
    go_enter Tryz.func27, Tryz.ntmps27
    go_wp2
    go_ret
    exact ⟨by rw [HF.out]; rfl, Below.refl _ _⟩
end Go.Proofs.YtmnlkganmgcpbaaGreatDoor
namespace Go.Proofs.YtmnlkganmgcpbaaGreatDoor
open Go.RowKit
set_option linter.unusedVariables false
set_option linter.unusedSectionVars false
set_option linter.unusedSimpArgs false
set_option maxRecDepth 100000 in
set_option maxHeartbeats 2000000 in
theorem same_true (W H : Int) (A : Option Addr) (N cp : Nat) (B : Option Addr) (M cq : Nat) (d : List Bool) (w : World) (ha : SR vB false w A N cp d) (hb : SR vB false w B M cq d) :
    Calls Tryz.prog 56 #[.agg #[.int .i64 W, .int .i64 H, .slice A N cp], .agg #[.int .i64 W, .int .i64 H, .slice B M cq]] w fun e w' => e = .returned (.bool true) ∧ Below w.heap.size w w' := by
  have HSB : Hid (∀ V, Abv w V → Calls Tryz.prog 27 #[.slice A N cp, .slice B M cq] V fun e w' => e = .returned (.bool true) ∧ Below V.heap.size V w') := fun V hV => by
    have h := SameBits_any A N cp d B M cq d V (ha.below hV) (hb.below hV)
    rw [decide_eq_true rfl] at h
    exact h
  have HB0 : Hid (Abv w ((w.alloc (.cells #[.int .i64 W, .int .i64 H, .slice A N cp] 28)).alloc (.cells #[.int .i64 W, .int .i64 H, .slice B M cq] 28))) := bwAlloc (bwA _ _) _
  clear ha hb
  go_enter Tryz.func56, Tryz.ntmps56
  go_wp2_with (go_at_call 27; refine (HSB.out _ HB0.out).mono ?_; rintro e w1 ⟨rfl, hb1⟩; have HB1 : Hid (Below w.heap.size w w1) := bwStep HB0.out hb1; clear hb1)
  go_ret
  exact ⟨rfl, HB1.out⟩
set_option maxRecDepth 100000 in
set_option maxHeartbeats 2000000 in
theorem equal_true (L : Int) (c : Bool) (k W H : Int) (A : Option Addr) (N cp : Nat) (B : Option Addr) (M cq : Nat) (d : List Bool) (w : World) (ha : SR vB false w A N cp d) (hb : SR vB false w B M cq d) :
    Calls Tryz.prog 22 #[.agg #[.int .i64 L, .bool c, .int .i64 k, .int .i64 W, .int .i64 H, .slice A N cp], .agg #[.int .i64 L, .bool c, .int .i64 k, .int .i64 W, .int .i64 H, .slice B M cq]] w fun e w' => e = .returned (.bool true) ∧ Below w.heap.size w w' := by
  have HSM : Hid (∀ V, Abv w V → Calls Tryz.prog 56 #[.agg #[.int .i64 W, .int .i64 H, .slice A N cp], .agg #[.int .i64 W, .int .i64 H, .slice B M cq]] V fun e w' => e = .returned (.bool true) ∧ Below V.heap.size V w') := fun V hV => same_true W H A N cp B M cq d V (ha.below hV) (hb.below hV)
  have HB0 : Hid (Abv w ((w.alloc (.cells #[.int .i64 L, .bool c, .int .i64 k, .int .i64 W, .int .i64 H, .slice A N cp] 30)).alloc (.cells #[.int .i64 L, .bool c, .int .i64 k, .int .i64 W, .int .i64 H, .slice B M cq] 30))) := bwAlloc (bwA _ _) _
  clear ha hb
  go_enter Tryz.func22, Tryz.ntmps22
  go_wp2_with (go_at_call 56; refine (HSM.out _ HB0.out).mono ?_; rintro e w1 ⟨rfl, hb1⟩; have HB1 : Hid (Below w.heap.size w w1) := bwStep HB0.out hb1; clear hb1)
  go_ret
  exact ⟨rfl, HB1.out⟩
theorem find_range {α : Type} (f : α → Bool) (g : Nat → α) : ∀ (k : Nat) (p : α), ((List.range k).map g).find? f = some p → ∃ i, i < k ∧ p = g i ∧ f (g i) = true ∧ ∀ j, j < i → f (g j) = false
  | 0, p, h => by cases h
  | k + 1, p, h => by
    rw [List.range_succ, List.map_append, List.find?_append] at h
    cases h1 : ((List.range k).map g).find? f with
    | some q =>
      rw [h1] at h
      obtain rfl : q = p := by simpa using h
      obtain ⟨i, hi, h2⟩ := find_range f g k q h1
      exact ⟨i, by omega, h2⟩
    | none =>
      rw [h1] at h
      have h2 : f (g k) = true ∧ g k = p := by
        simp only [Option.none_or, List.map_cons, List.map_nil, List.find?_cons, List.find?_nil] at h
        cases hf : f (g k) with
        | true => rw [hf] at h; simpa using h
        | false => rw [hf] at h; cases h
      refine ⟨k, by omega, h2.2.symm, h2.1, fun j hj => ?_⟩
      have h3 := List.find?_eq_none.1 h1 (g j) (List.mem_map.2 ⟨j, List.mem_range.2 hj, rfl⟩)
      simpa using h3
theorem none_range {α : Type} (f : α → Bool) (g : Nat → α) (k : Nat) (h : ((List.range k).map g).find? f = none) : ∀ j, j < k → f (g j) = false := fun j hj => by
  have h3 := List.find?_eq_none.1 h (g j) (List.mem_map.2 ⟨j, List.mem_range.2 hj, rfl⟩)
  simpa using h3
theorem pick_first {t : List Bool} {per L : Nat} {c c' : Bool} (h : pickS t per 0 c = some (L, c')) : okS t per (L, c') = true ∧ 1 ≤ L ∧ L ≤ 32 ∧ (c' = true → L ≤ 4) ∧ (c = true → c' = true) ∧
    (∀ i, 1 ≤ i → i ≤ 4 → (c' = true → i < L) → okS t per (i, true) = false) ∧ (∀ i, 4 ≤ i → c' = false → i < L → okS t per (i, false) = false) := by
  have h0 : (choiL c).find? (okS t per) = some (L, c') := h
  unfold choiL at h0
  rw [List.find?_append] at h0
  cases h1 : ((List.range 4).map fun i => (i + 1, true)).find? (okS t per) with
  | some q =>
    rw [h1] at h0
    obtain rfl : q = (L, c') := by simpa using h0
    obtain ⟨i, hi, e, h2, h3⟩ := find_range _ _ _ _ h1
    injection e with e1 e2
    subst e1 e2
    refine ⟨h2, by omega, by omega, fun _ => by omega, fun _ => rfl, fun j j1 j2 j3 => ?_, fun j _ hc => by cases hc⟩
    have := h3 (j - 1) (by have := j3 rfl; omega)
    rw [Nat.sub_add_cancel j1] at this
    exact this
  | none =>
    rw [h1] at h0
    have h4 := none_range _ _ _ h1
    cases c with
    | true => rw [if_pos rfl] at h0; cases h0
    | false =>
      rw [if_neg (by decide)] at h0
      have h5 : ((List.range 29).map fun i => (i + 4, false)).find? (okS t per) = some (L, c') := by simpa using h0
      obtain ⟨i, hi, e, h2, h3⟩ := find_range _ _ _ _ h5
      injection e with e1 e2
      subst e1 e2
      refine ⟨h2, by omega, by omega, fun hc => by (cases hc), fun hc => by (cases hc), fun j j1 j2 _ => ?_, fun j j1 _ j2 => ?_⟩
      · have := h4 (j - 1) (by omega)
        rw [Nat.sub_add_cancel j1] at this
        exact this
      · have := h3 (j - 4) (by omega)
        rw [Nat.sub_add_cancel j1] at this
        exact this
end Go.Proofs.YtmnlkganmgcpbaaGreatDoor
