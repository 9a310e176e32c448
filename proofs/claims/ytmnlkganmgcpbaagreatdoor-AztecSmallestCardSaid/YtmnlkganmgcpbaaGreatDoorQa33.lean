import Derived.Test.YtmnlkganmgcpbaaGreatDoorQa32
import Derived.Test.YtmnlkganmgcpbaaGreatDoorQa27
namespace Go.Proofs.YtmnlkganmgcpbaaGreatDoor
open Go.RowKit
set_option linter.unusedVariables false
set_option linter.unusedSectionVars false
set_option linter.unusedSimpArgs false
set_option maxRecDepth 100000 in
set_option maxHeartbeats 2000000 in
theorem rmodePath_true (L : Nat) (w : World) (h1 : 1 ≤ L) (hL : L ≤ 32) : Calls Tryz.prog 52 #[.int .i64 L, .bool true] w fun e w' => ∃ v, e = .returned v ∧ SPf w.heap.size w' v (modeL (cenN L true) true) ∧ Below w.heap.size w w' := by
  obtain ⟨i0, hi, hz0, hz1, hz2⟩ := info_parts ptInfo
  have hC : 5 ≤ cenN L true := by have := (cen_le (c := true) h1 hL).1; simp only [mkN, Bool.false_eq_true, if_false, if_true] at this; omega
  have hC2 : cenN L true ≤ 100 := by have := side_le (c := true) hL; unfold cenN; omega
  have HSD : Hid (∀ W, Calls Tryz.prog 48 #[.int .i64 L, .bool true] W fun e w' => e = .returned (.int .i64 ((sideN L true : Nat) : Int)) ∧ w' = W) := fun W => rside_any L true W hL
  have hs1 := (side_le (c := true) hL).1
  have hs2 := (side_le (c := true) hL).2
  have hCe : cenN L true = (sideN L true - 1) / 2 := rfl
  generalize sideN L true = S at *
  generalize cenN L true = C at *
  have e1 : ((S : Int) - 1) / 2 = (C : Int) := by omega
  clear hCe h1 hL
  go_enter Tryz.func52, Tryz.ntmps52
  go_wp2_with (go_at_call 48; refine (HSD.out _).mono ?_; rintro e w1 ⟨rfl, hw1⟩; rw [hw1]; clear hw1)
  simp only [e1]
  clear e1 HSD
  have HWO : Hid (Below w.heap.size w ((w.alloc (.cells #[.int .i64 (-5), .int .i64 (-4), .int .i64 (-3), .int .i64 (-2), .int .i64 (-1), .int .i64 (1), .int .i64 (2), .int .i64 (3), .int .i64 (4), .int .i64 (5)] 3)).alloc (.cells #[.int .i64 (-3), .int .i64 (-2), .int .i64 (-1), .int .i64 (0), .int .i64 (1), .int .i64 (2), .int .i64 (3)] 3))) := bwAlloc (bwA _ _) _
  have HSR : Hid (SR vI 0 ((w.alloc (.cells #[.int .i64 (-5), .int .i64 (-4), .int .i64 (-3), .int .i64 (-2), .int .i64 (-1), .int .i64 (1), .int .i64 (2), .int .i64 (3), .int .i64 (4), .int .i64 (5)] 3)).alloc (.cells #[.int .i64 (-3), .int .i64 (-2), .int .i64 (-1), .int .i64 (0), .int .i64 (1), .int .i64 (2), .int .i64 (3)] 3)) (some ⟨w.heap.size + 1, 0, none⟩) 7 7 (offN true)) := SR.lit (f := vI) (d := 0) (w.alloc (.cells #[.int .i64 (-5), .int .i64 (-4), .int .i64 (-3), .int .i64 (-2), .int .i64 (-1), .int .i64 (1), .int .i64 (2), .int .i64 (3), .int .i64 (4), .int .i64 (5)] 3)) [-3, -2, -1, 0, 1, 2, 3] 3 _ 7 (by simp) rfl (by unfold maxLen; omega)
  generalize hwo : (w.alloc (.cells #[.int .i64 (-5), .int .i64 (-4), .int .i64 (-3), .int .i64 (-2), .int .i64 (-1), .int .i64 (1), .int .i64 (2), .int .i64 (3), .int .i64 (4), .int .i64 (5)] 3)).alloc (.cells #[.int .i64 (-3), .int .i64 (-2), .int .i64 (-1), .int .i64 (0), .int .i64 (1), .int .i64 (2), .int .i64 (3)] 3) = wo at *
  clear hwo
  obtain ⟨ob, hob⟩ : ∃ ob, ob = w.heap.size + 1 := ⟨_, rfl⟩
  rw [← hob] at HSR ⊢
  clear hob
  obtain ⟨ad, had, hadw, hca⟩ := HSR.out.rd (by decide)
  cases had
  have CFO : Hid (∀ W, Abv wo W → ∀ j : Nat, j < 7 → W.cell? ((⟨ob, 0, none⟩ : Addr).add j) = some (.int .i64 ((offN true).getD j 0))) := fun W hW j hj => (hW.cell (by rw [block_of_add]; exact hadw)).trans (hca j (by show j < (offN true).length; exact hj))
  have HP0 : Hid (OGP wo wo (.slice none 0 0) ([] ++ (mp0 C true).take 0)) := OGP.start _
  clear hadw hca HSR
  go_loopw [8, 10] (fun ov iv wr => ∃ j : Nat, j ≤ 7 ∧ iv = .int .i64 (j : Int) ∧ Hid (OGP wo wr ov ([] ++ (mp0 C true).take j))) (fun _ iv _ => 7 - (intOf iv).toNat)
  case atStart => exact ⟨0, by omega, rfl, HP0.out⟩
  case round =>
    clear HP0
    obtain ⟨j, hj, rfl, hO⟩ := hrel
    by_cases hlt : j < 7
    · obtain ⟨x, y, hxy, h0, h1, h2, h3, hx9, hy9⟩ := mp_get C true hC 0 j (by omega) hlt
      have HNX : Hid ([] ++ (mp0 C true).take (j + 1) = ([] ++ (mp0 C true).take j) ++ [(x, y)]) := by show _ = _; rw [take_snoc _ (0, 0) (by rw [(mp_length C true).1]; exact hlt), ← List.append_assoc]; exact congrArg (fun p => _ ++ [p]) hxy
      have HLE : Hid (([] ++ (mp0 C true).take j).length ≤ 100) := by
        show _ ≤ _
        have := mp_length C true
        have hn : (offN true).length = 7 := rfl
        simp only [List.length_append, List.length_take, List.length_nil, this.1, this.2.1, this.2.2.1, this.2.2.2, hn]
        omega
      have he := h0 rfl
      have hx := he.1
      have hy := he.2
      have hcj : (offN true).getD j 0 = (offN true).getD (j) 0 := by rfl
      rw [← hcj] at hx
      have ho := off_get (c := true) (j := j) hlt
      have CFJ : Hid (∀ W, Abv wo W → W.cell? ((⟨ob, 0, none⟩ : Addr).add j) = some (.int .i64 ((offN true).getD j 0))) := fun W hW => CFO.out W hW _ hlt
      simp only [mkN, Bool.false_eq_true, if_false, if_true] at hx hy ho
      generalize (offN true).getD j 0 = oo at *
      have ho1 : -5 ≤ oo := by omega
      have ho2 : oo ≤ 5 := by omega
      have hmm : (C : Int) - 5 = (y : Int) := by omega
      clear hy
      clear h0 h1 h2 h3 he hxy hcj ho 
      have fo := CFJ.out _ hO.out.B
      rw [add_plain, Nat.zero_add] at fo
      generalize [] ++ (mp0 C true).take j = ls at *
      go_wp2_with (at_builtin; refine wpList_append_pts (ownsRow_below hO.out.O (bwA _ _)) (Nat.le_trans hO.out.B.size (by simp)) rfl _ _ rfl rfl ⟨wr.heap.size, 0, none⟩ 1 1 [(x, y)] rfl rfl (lit_pts wr [(x, y)] _) (by have := HLE.out; omega) ?_; intro v6 w6 hown hg hat; have HP := Lib.hid (hO.out.grow (bwA _ _) hown hg); clear hown hg hat)
      first | exact ⟨⟨j + 1, by omega, by go_num, by show OGP _ _ _ _; rw [HNX.out]; exact HP.out⟩, by first | (simp [intOf]; done) | (simp [intOf]; omega)⟩ | exact ⟨⟨_, _, _, _, _, _, _, _, _, _, _, _, _, _, _, _, _, _, _, _, ⟨j + 1, by omega, by go_num, by show OGP _ _ _ _; rw [HNX.out]; exact HP.out⟩, rfl⟩, by show 7 - (intOf (.int .i64 ((j : Int) + 1))).toNat < 7 - (intOf (.int .i64 (j : Int))).toNat; first | (simp [intOf]; done) | (simp [intOf]; omega)⟩
    · obtain rfl : j = 7 := by omega
      have HP1 : ∀ ov W, Hid (OGP wo W ov ([] ++ (mp0 C true).take 7)) → Hid (OGP wo W ov (mp0 C true ++ (mp1 C true).take 0)) := fun ov W h => by show OGP _ _ _ _; have h2 := h.out; rw [List.take_of_length_le (by simp [mp0]; decide)] at h2; simpa using h2
      have HP1 := HP1 _ _ hO
      clear hO
      go_wp2
      go_loopw [8, 11] (fun ov iv wr => ∃ j : Nat, j ≤ 7 ∧ iv = .int .i64 (j : Int) ∧ Hid (OGP wo wr ov (mp0 C true ++ (mp1 C true).take j))) (fun _ iv _ => 7 - (intOf iv).toNat)
      case atStart => exact ⟨0, by omega, rfl, HP1.out⟩
      case round =>
        clear HP1
        obtain ⟨j, hj, rfl, hO⟩ := hrel
        by_cases hlt : j < 7
        · obtain ⟨x, y, hxy, h0, h1, h2, h3, hx9, hy9⟩ := mp_get C true hC 1 j (by omega) hlt
          have HNX : Hid (mp0 C true ++ (mp1 C true).take (j + 1) = (mp0 C true ++ (mp1 C true).take j) ++ [(x, y)]) := by show _ = _; rw [take_snoc _ (0, 0) (by rw [(mp_length C true).2.1]; exact hlt), ← List.append_assoc]; exact congrArg (fun p => _ ++ [p]) hxy
          have HLE : Hid ((mp0 C true ++ (mp1 C true).take j).length ≤ 100) := by
            show _ ≤ _
            have := mp_length C true
            have hn : (offN true).length = 7 := rfl
            simp only [List.length_append, List.length_take, List.length_nil, this.1, this.2.1, this.2.2.1, this.2.2.2, hn]
            omega
          have he := h1 rfl
          have hx := he.1
          have hy := he.2
          have hcj : (offN true).getD j 0 = (offN true).getD (j) 0 := by rfl
          rw [← hcj] at hy
          have ho := off_get (c := true) (j := j) hlt
          have CFJ : Hid (∀ W, Abv wo W → W.cell? ((⟨ob, 0, none⟩ : Addr).add j) = some (.int .i64 ((offN true).getD j 0))) := fun W hW => CFO.out W hW _ hlt
          simp only [mkN, Bool.false_eq_true, if_false, if_true] at hx hy ho
          generalize (offN true).getD j 0 = oo at *
          have ho1 : -5 ≤ oo := by omega
          have ho2 : oo ≤ 5 := by omega
          have hmm : (C : Int) + 5 = (x : Int) := by omega
          clear hx
          clear h0 h1 h2 h3 he hxy hcj ho 
          have fo := CFJ.out _ hO.out.B
          rw [add_plain, Nat.zero_add] at fo
          generalize mp0 C true ++ (mp1 C true).take j = ls at *
          go_wp2_with (at_builtin; refine wpList_append_pts (ownsRow_below hO.out.O (bwA _ _)) (Nat.le_trans hO.out.B.size (by simp)) rfl _ _ rfl rfl ⟨wr.heap.size, 0, none⟩ 1 1 [(x, y)] rfl rfl (lit_pts wr [(x, y)] _) (by have := HLE.out; omega) ?_; intro v6 w6 hown hg hat; have HP := Lib.hid (hO.out.grow (bwA _ _) hown hg); clear hown hg hat)
          first | exact ⟨⟨j + 1, by omega, by go_num, by show OGP _ _ _ _; rw [HNX.out]; exact HP.out⟩, by first | (simp [intOf]; done) | (simp [intOf]; omega)⟩ | exact ⟨⟨_, _, _, _, _, _, _, _, _, _, _, _, _, _, _, _, _, _, _, _, ⟨j + 1, by omega, by go_num, by show OGP _ _ _ _; rw [HNX.out]; exact HP.out⟩, rfl⟩, by show 7 - (intOf (.int .i64 ((j : Int) + 1))).toNat < 7 - (intOf (.int .i64 (j : Int))).toNat; first | (simp [intOf]; done) | (simp [intOf]; omega)⟩
        · obtain rfl : j = 7 := by omega
          have HP2 : ∀ ov W, Hid (OGP wo W ov (mp0 C true ++ (mp1 C true).take 7)) → Hid (OGP wo W ov (mp0 C true ++ mp1 C true ++ (mp2 C true).take 0)) := fun ov W h => by show OGP _ _ _ _; have h2 := h.out; rw [List.take_of_length_le (by simp [mp1]; decide)] at h2; simpa using h2
          have HP2 := HP2 _ _ hO
          clear hO
          go_wp2
          go_loopw [8, 12] (fun ov iv wr => ∃ j : Nat, j ≤ 7 ∧ iv = .int .i64 (6 - (j : Int)) ∧ Hid (OGP wo wr ov (mp0 C true ++ mp1 C true ++ (mp2 C true).take j))) (fun _ iv _ => (intOf iv + 1).toNat)
          case atStart => exact ⟨0, by omega, rfl, HP2.out⟩
          case round =>
            clear HP2
            obtain ⟨j, hj, rfl, hO⟩ := hrel
            by_cases hlt : j < 7
            · obtain ⟨x, y, hxy, h0, h1, h2, h3, hx9, hy9⟩ := mp_get C true hC 2 j (by omega) hlt
              have HNX : Hid (mp0 C true ++ mp1 C true ++ (mp2 C true).take (j + 1) = (mp0 C true ++ mp1 C true ++ (mp2 C true).take j) ++ [(x, y)]) := by show _ = _; rw [take_snoc _ (0, 0) (by rw [(mp_length C true).2.2.1]; exact hlt), ← List.append_assoc]; exact congrArg (fun p => _ ++ [p]) hxy
              have HLE : Hid ((mp0 C true ++ mp1 C true ++ (mp2 C true).take j).length ≤ 100) := by
                show _ ≤ _
                have := mp_length C true
                have hn : (offN true).length = 7 := rfl
                simp only [List.length_append, List.length_take, List.length_nil, this.1, this.2.1, this.2.2.1, this.2.2.2, hn]
                omega
              have he := h2 rfl
              have hx := he.1
              have hy := he.2
              obtain ⟨jr, hjr⟩ : ∃ jr, jr = 7 - 1 - j := ⟨_, rfl⟩
              have hjr2 : (6 : Int) - (j : Int) = (jr : Int) := by omega
              have hjr9 : jr < 7 := by omega
              have hjr10 : (jr : Int) < 7 := by omega
              have hjr3 : (6 : Int) - ((j + 1 : Nat) : Int) = (jr : Int) - 1 := by omega
              have HJ3 := Lib.hid hjr3
              clear hjr3
              have hcj : (offN true).getD jr 0 = (offN true).getD ((offN true).length - 1 - j) 0 := by rw [hjr]; rfl
              rw [← hcj] at hx
              have ho := off_get (c := true) (j := jr) hjr9
              have CFJ : Hid (∀ W, Abv wo W → W.cell? ((⟨ob, 0, none⟩ : Addr).add jr) = some (.int .i64 ((offN true).getD jr 0))) := fun W hW => CFO.out W hW _ hjr9
              simp only [mkN, Bool.false_eq_true, if_false, if_true] at hx hy ho
              generalize (offN true).getD jr 0 = oo at *
              have ho1 : -5 ≤ oo := by omega
              have ho2 : oo ≤ 5 := by omega
              have hmm : (C : Int) + 5 = (y : Int) := by omega
              clear hy
              clear h0 h1 h2 h3 he hxy hcj ho hjr
              have fo := CFJ.out _ hO.out.B
              rw [add_plain, Nat.zero_add] at fo
              generalize mp0 C true ++ mp1 C true ++ (mp2 C true).take j = ls at *
              rw [hjr2]
              go_wp2_with (at_builtin; refine wpList_append_pts (ownsRow_below hO.out.O (bwA _ _)) (Nat.le_trans hO.out.B.size (by simp)) rfl _ _ rfl rfl ⟨wr.heap.size, 0, none⟩ 1 1 [(x, y)] rfl rfl (lit_pts wr [(x, y)] _) (by have := HLE.out; omega) ?_; intro v6 w6 hown hg hat; have HP := Lib.hid (hO.out.grow (bwA _ _) hown hg); clear hown hg hat)
              first | exact ⟨⟨j + 1, by omega, by rw [HJ3.out], by show OGP _ _ _ _; rw [HNX.out]; exact HP.out⟩, by first | (simp [intOf]; done) | (simp [intOf]; omega)⟩ | exact ⟨⟨_, _, _, _, _, _, _, _, _, _, _, _, _, _, _, _, _, _, _, ⟨j + 1, by omega, by rw [HJ3.out], by show OGP _ _ _ _; rw [HNX.out]; exact HP.out⟩, rfl⟩, by show (intOf (.int .i64 ((jr : Int) - 1)) + 1).toNat < (intOf (.int .i64 (jr : Int)) + 1).toNat; first | (simp [intOf]; done) | (simp [intOf]; omega)⟩
            · obtain rfl : j = 7 := by omega
              have hng : ¬ ((0 : Int) ≤ 6 - ((7 : Nat) : Int)) := by omega
              have HP3 : ∀ ov W, Hid (OGP wo W ov (mp0 C true ++ mp1 C true ++ (mp2 C true).take 7)) → Hid (OGP wo W ov (mp0 C true ++ mp1 C true ++ mp2 C true ++ (mp3 C true).take 0)) := fun ov W h => by show OGP _ _ _ _; have h2 := h.out; rw [List.take_of_length_le (by simp [mp2]; decide)] at h2; simpa using h2
              have HP3 := HP3 _ _ hO
              clear hO
              go_wp2
              go_loopw [8, 13] (fun ov iv wr => ∃ j : Nat, j ≤ 7 ∧ iv = .int .i64 (6 - (j : Int)) ∧ Hid (OGP wo wr ov (mp0 C true ++ mp1 C true ++ mp2 C true ++ (mp3 C true).take j))) (fun _ iv _ => (intOf iv + 1).toNat)
              case atStart => exact ⟨0, by omega, rfl, HP3.out⟩
              case round =>
                clear HP3
                obtain ⟨j, hj, rfl, hO⟩ := hrel
                by_cases hlt : j < 7
                · obtain ⟨x, y, hxy, h0, h1, h2, h3, hx9, hy9⟩ := mp_get C true hC 3 j (by omega) hlt
                  have HNX : Hid (mp0 C true ++ mp1 C true ++ mp2 C true ++ (mp3 C true).take (j + 1) = (mp0 C true ++ mp1 C true ++ mp2 C true ++ (mp3 C true).take j) ++ [(x, y)]) := by show _ = _; rw [take_snoc _ (0, 0) (by rw [(mp_length C true).2.2.2]; exact hlt), ← List.append_assoc]; exact congrArg (fun p => _ ++ [p]) hxy
                  have HLE : Hid ((mp0 C true ++ mp1 C true ++ mp2 C true ++ (mp3 C true).take j).length ≤ 100) := by
                    show _ ≤ _
                    have := mp_length C true
                    have hn : (offN true).length = 7 := rfl
                    simp only [List.length_append, List.length_take, List.length_nil, this.1, this.2.1, this.2.2.1, this.2.2.2, hn]
                    omega
                  have he := h3 rfl
                  have hx := he.1
                  have hy := he.2
                  obtain ⟨jr, hjr⟩ : ∃ jr, jr = 7 - 1 - j := ⟨_, rfl⟩
                  have hjr2 : (6 : Int) - (j : Int) = (jr : Int) := by omega
                  have hjr9 : jr < 7 := by omega
                  have hjr10 : (jr : Int) < 7 := by omega
                  have hjr3 : (6 : Int) - ((j + 1 : Nat) : Int) = (jr : Int) - 1 := by omega
                  have HJ3 := Lib.hid hjr3
                  clear hjr3
                  have hcj : (offN true).getD jr 0 = (offN true).getD ((offN true).length - 1 - j) 0 := by rw [hjr]; rfl
                  rw [← hcj] at hy
                  have ho := off_get (c := true) (j := jr) hjr9
                  have CFJ : Hid (∀ W, Abv wo W → W.cell? ((⟨ob, 0, none⟩ : Addr).add jr) = some (.int .i64 ((offN true).getD jr 0))) := fun W hW => CFO.out W hW _ hjr9
                  simp only [mkN, Bool.false_eq_true, if_false, if_true] at hx hy ho
                  generalize (offN true).getD jr 0 = oo at *
                  have ho1 : -5 ≤ oo := by omega
                  have ho2 : oo ≤ 5 := by omega
                  have hmm : (C : Int) - 5 = (x : Int) := by omega
                  clear hx
                  clear h0 h1 h2 h3 he hxy hcj ho hjr
                  have fo := CFJ.out _ hO.out.B
                  rw [add_plain, Nat.zero_add] at fo
                  generalize mp0 C true ++ mp1 C true ++ mp2 C true ++ (mp3 C true).take j = ls at *
                  rw [hjr2]
                  go_wp2_with (at_builtin; refine wpList_append_pts (ownsRow_below hO.out.O (bwA _ _)) (Nat.le_trans hO.out.B.size (by simp)) rfl _ _ rfl rfl ⟨wr.heap.size, 0, none⟩ 1 1 [(x, y)] rfl rfl (lit_pts wr [(x, y)] _) (by have := HLE.out; omega) ?_; intro v6 w6 hown hg hat; have HP := Lib.hid (hO.out.grow (bwA _ _) hown hg); clear hown hg hat)
                  first | exact ⟨⟨j + 1, by omega, by rw [HJ3.out], by show OGP _ _ _ _; rw [HNX.out]; exact HP.out⟩, by first | (simp [intOf]; done) | (simp [intOf]; omega)⟩ | exact ⟨⟨_, _, _, _, _, _, _, _, _, _, _, _, _, _, _, _, _, _, _, ⟨j + 1, by omega, by rw [HJ3.out], by show OGP _ _ _ _; rw [HNX.out]; exact HP.out⟩, rfl⟩, by show (intOf (.int .i64 ((jr : Int) - 1)) + 1).toNat < (intOf (.int .i64 (jr : Int)) + 1).toNat; first | (simp [intOf]; done) | (simp [intOf]; omega)⟩
                · obtain rfl : j = 7 := by omega
                  have hng : ¬ ((0 : Int) ≤ 6 - ((7 : Nat) : Int)) := by omega
                  have HEND : ∀ ov W, Hid (OGP wo W ov (mp0 C true ++ mp1 C true ++ mp2 C true ++ (mp3 C true).take 7)) → Hid (OGP wo W ov (modeL C true)) := fun ov W h => by show OGP _ _ _ _; have h2 := h.out; rw [List.take_of_length_le (by simp [mp3]; decide)] at h2; rw [modeL_parts]; exact h2
                  have HEND := HEND _ _ hO
                  clear hO
                  go_wp2
                  go_ret
                  exact ⟨_, rfl, (SPf.of_own HEND.out.O).mono HWO.out.size, bwStep HWO.out HEND.out.B⟩
set_option maxRecDepth 100000 in
set_option maxHeartbeats 2000000 in
theorem rmodePath_false (L : Nat) (w : World) (h1 : 1 ≤ L) (hL : L ≤ 32) : Calls Tryz.prog 52 #[.int .i64 L, .bool false] w fun e w' => ∃ v, e = .returned v ∧ SPf w.heap.size w' v (modeL (cenN L false) false) ∧ Below w.heap.size w w' := by
  obtain ⟨i0, hi, hz0, hz1, hz2⟩ := info_parts ptInfo
  have hC : 7 ≤ cenN L false := by have := (cen_le (c := false) h1 hL).1; simp only [mkN, Bool.false_eq_true, if_false, if_true] at this; omega
  have hC2 : cenN L false ≤ 100 := by have := side_le (c := false) hL; unfold cenN; omega
  have HSD : Hid (∀ W, Calls Tryz.prog 48 #[.int .i64 L, .bool false] W fun e w' => e = .returned (.int .i64 ((sideN L false : Nat) : Int)) ∧ w' = W) := fun W => rside_any L false W hL
  have hs1 := (side_le (c := false) hL).1
  have hs2 := (side_le (c := false) hL).2
  have hCe : cenN L false = (sideN L false - 1) / 2 := rfl
  generalize sideN L false = S at *
  generalize cenN L false = C at *
  have e1 : ((S : Int) - 1) / 2 = (C : Int) := by omega
  clear hCe h1 hL
  go_enter Tryz.func52, Tryz.ntmps52
  go_wp2_with (go_at_call 48; refine (HSD.out _).mono ?_; rintro e w1 ⟨rfl, hw1⟩; rw [hw1]; clear hw1)
  simp only [e1]
  clear e1 HSD
  have HWO : Hid (Below w.heap.size w (w.alloc (.cells #[.int .i64 (-5), .int .i64 (-4), .int .i64 (-3), .int .i64 (-2), .int .i64 (-1), .int .i64 (1), .int .i64 (2), .int .i64 (3), .int .i64 (4), .int .i64 (5)] 3))) := bwA _ _
  have HSR : Hid (SR vI 0 (w.alloc (.cells #[.int .i64 (-5), .int .i64 (-4), .int .i64 (-3), .int .i64 (-2), .int .i64 (-1), .int .i64 (1), .int .i64 (2), .int .i64 (3), .int .i64 (4), .int .i64 (5)] 3)) (some ⟨w.heap.size, 0, none⟩) 10 10 (offN false)) := SR.lit (f := vI) (d := 0) w [-5, -4, -3, -2, -1, 1, 2, 3, 4, 5] 3 _ 10 rfl rfl (by unfold maxLen; omega)
  generalize hwo : w.alloc (.cells #[.int .i64 (-5), .int .i64 (-4), .int .i64 (-3), .int .i64 (-2), .int .i64 (-1), .int .i64 (1), .int .i64 (2), .int .i64 (3), .int .i64 (4), .int .i64 (5)] 3) = wo at *
  clear hwo
  obtain ⟨ob, hob⟩ : ∃ ob, ob = w.heap.size := ⟨_, rfl⟩
  rw [← hob] at HSR
  simp only [← hob]
  have HOB := Lib.hid hob
  clear hob
  obtain ⟨ad, had, hadw, hca⟩ := HSR.out.rd (by decide)
  cases had
  have CFO : Hid (∀ W, Abv wo W → ∀ j : Nat, j < 10 → W.cell? ((⟨ob, 0, none⟩ : Addr).add j) = some (.int .i64 ((offN false).getD j 0))) := fun W hW j hj => (hW.cell (by rw [block_of_add]; exact hadw)).trans (hca j (by show j < (offN false).length; exact hj))
  have HP0 : Hid (OGP wo wo (.slice none 0 0) ([] ++ (mp0 C false).take 0)) := OGP.start _
  clear hadw hca HSR
  go_loopw [8, 10] (fun ov iv wr => ∃ j : Nat, j ≤ 10 ∧ iv = .int .i64 (j : Int) ∧ Hid (OGP wo wr ov ([] ++ (mp0 C false).take j))) (fun _ iv _ => 10 - (intOf iv).toNat)
  case atStart => exact ⟨0, by omega, rfl, HP0.out⟩
  case round =>
    clear HP0
    obtain ⟨j, hj, rfl, hO⟩ := hrel
    by_cases hlt : j < 10
    · obtain ⟨x, y, hxy, h0, h1, h2, h3, hx9, hy9⟩ := mp_get C false hC 0 j (by omega) hlt
      have HNX : Hid ([] ++ (mp0 C false).take (j + 1) = ([] ++ (mp0 C false).take j) ++ [(x, y)]) := by show _ = _; rw [take_snoc _ (0, 0) (by rw [(mp_length C false).1]; exact hlt), ← List.append_assoc]; exact congrArg (fun p => _ ++ [p]) hxy
      have HLE : Hid (([] ++ (mp0 C false).take j).length ≤ 100) := by
        show _ ≤ _
        have := mp_length C false
        have hn : (offN false).length = 10 := rfl
        simp only [List.length_append, List.length_take, List.length_nil, this.1, this.2.1, this.2.2.1, this.2.2.2, hn]
        omega
      have he := h0 rfl
      have hx := he.1
      have hy := he.2
      have hcj : (offN false).getD j 0 = (offN false).getD (j) 0 := by rfl
      rw [← hcj] at hx
      have ho := off_get (c := false) (j := j) hlt
      have CFJ : Hid (∀ W, Abv wo W → W.cell? ((⟨ob, 0, none⟩ : Addr).add j) = some (.int .i64 ((offN false).getD j 0))) := fun W hW => CFO.out W hW _ hlt
      simp only [mkN, Bool.false_eq_true, if_false, if_true] at hx hy ho
      generalize (offN false).getD j 0 = oo at *
      have ho1 : -7 ≤ oo := by omega
      have ho2 : oo ≤ 7 := by omega
      have hmm : (C : Int) - 7 = (y : Int) := by omega
      clear hy
      clear h0 h1 h2 h3 he hxy hcj ho 
      have fo := CFJ.out _ hO.out.B
      rw [add_plain, Nat.zero_add] at fo
      generalize [] ++ (mp0 C false).take j = ls at *
      go_wp2_with (at_builtin; refine wpList_append_pts (ownsRow_below hO.out.O (bwA _ _)) (Nat.le_trans hO.out.B.size (by simp)) rfl _ _ rfl rfl ⟨wr.heap.size, 0, none⟩ 1 1 [(x, y)] rfl rfl (lit_pts wr [(x, y)] _) (by have := HLE.out; omega) ?_; intro v6 w6 hown hg hat; have HP := Lib.hid (hO.out.grow (bwA _ _) hown hg); clear hown hg hat)
      first | exact ⟨⟨j + 1, by omega, by go_num, by show OGP _ _ _ _; rw [HNX.out]; exact HP.out⟩, by first | (simp [intOf]; done) | (simp [intOf]; omega)⟩ | exact ⟨⟨_, _, _, _, _, _, _, _, _, _, _, _, _, _, _, _, _, _, _, _, ⟨j + 1, by omega, by go_num, by show OGP _ _ _ _; rw [HNX.out]; exact HP.out⟩, rfl⟩, by show 10 - (intOf (.int .i64 ((j : Int) + 1))).toNat < 10 - (intOf (.int .i64 (j : Int))).toNat; first | (simp [intOf]; done) | (simp [intOf]; omega)⟩
    · obtain rfl : j = 10 := by omega
      have HP1 : ∀ ov W, Hid (OGP wo W ov ([] ++ (mp0 C false).take 10)) → Hid (OGP wo W ov (mp0 C false ++ (mp1 C false).take 0)) := fun ov W h => by show OGP _ _ _ _; have h2 := h.out; rw [List.take_of_length_le (by simp [mp0]; decide)] at h2; simpa using h2
      have HP1 := HP1 _ _ hO
      clear hO
      go_wp2
      go_loopw [8, 11] (fun ov iv wr => ∃ j : Nat, j ≤ 10 ∧ iv = .int .i64 (j : Int) ∧ Hid (OGP wo wr ov (mp0 C false ++ (mp1 C false).take j))) (fun _ iv _ => 10 - (intOf iv).toNat)
      case atStart => exact ⟨0, by omega, rfl, HP1.out⟩
      case round =>
        clear HP1
        obtain ⟨j, hj, rfl, hO⟩ := hrel
        by_cases hlt : j < 10
        · obtain ⟨x, y, hxy, h0, h1, h2, h3, hx9, hy9⟩ := mp_get C false hC 1 j (by omega) hlt
          have HNX : Hid (mp0 C false ++ (mp1 C false).take (j + 1) = (mp0 C false ++ (mp1 C false).take j) ++ [(x, y)]) := by show _ = _; rw [take_snoc _ (0, 0) (by rw [(mp_length C false).2.1]; exact hlt), ← List.append_assoc]; exact congrArg (fun p => _ ++ [p]) hxy
          have HLE : Hid ((mp0 C false ++ (mp1 C false).take j).length ≤ 100) := by
            show _ ≤ _
            have := mp_length C false
            have hn : (offN false).length = 10 := rfl
            simp only [List.length_append, List.length_take, List.length_nil, this.1, this.2.1, this.2.2.1, this.2.2.2, hn]
            omega
          have he := h1 rfl
          have hx := he.1
          have hy := he.2
          have hcj : (offN false).getD j 0 = (offN false).getD (j) 0 := by rfl
          rw [← hcj] at hy
          have ho := off_get (c := false) (j := j) hlt
          have CFJ : Hid (∀ W, Abv wo W → W.cell? ((⟨ob, 0, none⟩ : Addr).add j) = some (.int .i64 ((offN false).getD j 0))) := fun W hW => CFO.out W hW _ hlt
          simp only [mkN, Bool.false_eq_true, if_false, if_true] at hx hy ho
          generalize (offN false).getD j 0 = oo at *
          have ho1 : -7 ≤ oo := by omega
          have ho2 : oo ≤ 7 := by omega
          have hmm : (C : Int) + 7 = (x : Int) := by omega
          clear hx
          clear h0 h1 h2 h3 he hxy hcj ho 
          have fo := CFJ.out _ hO.out.B
          rw [add_plain, Nat.zero_add] at fo
          generalize mp0 C false ++ (mp1 C false).take j = ls at *
          go_wp2_with (at_builtin; refine wpList_append_pts (ownsRow_below hO.out.O (bwA _ _)) (Nat.le_trans hO.out.B.size (by simp)) rfl _ _ rfl rfl ⟨wr.heap.size, 0, none⟩ 1 1 [(x, y)] rfl rfl (lit_pts wr [(x, y)] _) (by have := HLE.out; omega) ?_; intro v6 w6 hown hg hat; have HP := Lib.hid (hO.out.grow (bwA _ _) hown hg); clear hown hg hat)
          first | exact ⟨⟨j + 1, by omega, by go_num, by show OGP _ _ _ _; rw [HNX.out]; exact HP.out⟩, by first | (simp [intOf]; done) | (simp [intOf]; omega)⟩ | exact ⟨⟨_, _, _, _, _, _, _, _, _, _, _, _, _, _, _, _, _, _, _, _, ⟨j + 1, by omega, by go_num, by show OGP _ _ _ _; rw [HNX.out]; exact HP.out⟩, rfl⟩, by show 10 - (intOf (.int .i64 ((j : Int) + 1))).toNat < 10 - (intOf (.int .i64 (j : Int))).toNat; first | (simp [intOf]; done) | (simp [intOf]; omega)⟩
        · obtain rfl : j = 10 := by omega
          have HP2 : ∀ ov W, Hid (OGP wo W ov (mp0 C false ++ (mp1 C false).take 10)) → Hid (OGP wo W ov (mp0 C false ++ mp1 C false ++ (mp2 C false).take 0)) := fun ov W h => by show OGP _ _ _ _; have h2 := h.out; rw [List.take_of_length_le (by simp [mp1]; decide)] at h2; simpa using h2
          have HP2 := HP2 _ _ hO
          clear hO
          go_wp2
          go_loopw [8, 12] (fun ov iv wr => ∃ j : Nat, j ≤ 10 ∧ iv = .int .i64 (9 - (j : Int)) ∧ Hid (OGP wo wr ov (mp0 C false ++ mp1 C false ++ (mp2 C false).take j))) (fun _ iv _ => (intOf iv + 1).toNat)
          case atStart => exact ⟨0, by omega, rfl, HP2.out⟩
          case round =>
            clear HP2
            obtain ⟨j, hj, rfl, hO⟩ := hrel
            by_cases hlt : j < 10
            · obtain ⟨x, y, hxy, h0, h1, h2, h3, hx9, hy9⟩ := mp_get C false hC 2 j (by omega) hlt
              have HNX : Hid (mp0 C false ++ mp1 C false ++ (mp2 C false).take (j + 1) = (mp0 C false ++ mp1 C false ++ (mp2 C false).take j) ++ [(x, y)]) := by show _ = _; rw [take_snoc _ (0, 0) (by rw [(mp_length C false).2.2.1]; exact hlt), ← List.append_assoc]; exact congrArg (fun p => _ ++ [p]) hxy
              have HLE : Hid ((mp0 C false ++ mp1 C false ++ (mp2 C false).take j).length ≤ 100) := by
                show _ ≤ _
                have := mp_length C false
                have hn : (offN false).length = 10 := rfl
                simp only [List.length_append, List.length_take, List.length_nil, this.1, this.2.1, this.2.2.1, this.2.2.2, hn]
                omega
              have he := h2 rfl
              have hx := he.1
              have hy := he.2
              obtain ⟨jr, hjr⟩ : ∃ jr, jr = 10 - 1 - j := ⟨_, rfl⟩
              have hjr2 : (9 : Int) - (j : Int) = (jr : Int) := by omega
              have hjr9 : jr < 10 := by omega
              have hjr10 : (jr : Int) < 10 := by omega
              have hjr3 : (9 : Int) - ((j + 1 : Nat) : Int) = (jr : Int) - 1 := by omega
              have HJ3 := Lib.hid hjr3
              clear hjr3
              have hcj : (offN false).getD jr 0 = (offN false).getD ((offN false).length - 1 - j) 0 := by rw [hjr]; rfl
              rw [← hcj] at hx
              have ho := off_get (c := false) (j := jr) hjr9
              have CFJ : Hid (∀ W, Abv wo W → W.cell? ((⟨ob, 0, none⟩ : Addr).add jr) = some (.int .i64 ((offN false).getD jr 0))) := fun W hW => CFO.out W hW _ hjr9
              simp only [mkN, Bool.false_eq_true, if_false, if_true] at hx hy ho
              generalize (offN false).getD jr 0 = oo at *
              have ho1 : -7 ≤ oo := by omega
              have ho2 : oo ≤ 7 := by omega
              have hmm : (C : Int) + 7 = (y : Int) := by omega
              clear hy
              clear h0 h1 h2 h3 he hxy hcj ho hjr
              have fo := CFJ.out _ hO.out.B
              rw [add_plain, Nat.zero_add] at fo
              generalize mp0 C false ++ mp1 C false ++ (mp2 C false).take j = ls at *
              rw [hjr2]
              go_wp2_with (at_builtin; refine wpList_append_pts (ownsRow_below hO.out.O (bwA _ _)) (Nat.le_trans hO.out.B.size (by simp)) rfl _ _ rfl rfl ⟨wr.heap.size, 0, none⟩ 1 1 [(x, y)] rfl rfl (lit_pts wr [(x, y)] _) (by have := HLE.out; omega) ?_; intro v6 w6 hown hg hat; have HP := Lib.hid (hO.out.grow (bwA _ _) hown hg); clear hown hg hat)
              first | exact ⟨⟨j + 1, by omega, by rw [HJ3.out], by show OGP _ _ _ _; rw [HNX.out]; exact HP.out⟩, by first | (simp [intOf]; done) | (simp [intOf]; omega)⟩ | exact ⟨⟨_, _, _, _, _, _, _, _, _, _, _, _, _, _, _, _, _, _, _, ⟨j + 1, by omega, by rw [HJ3.out], by show OGP _ _ _ _; rw [HNX.out]; exact HP.out⟩, rfl⟩, by show (intOf (.int .i64 ((jr : Int) - 1)) + 1).toNat < (intOf (.int .i64 (jr : Int)) + 1).toNat; first | (simp [intOf]; done) | (simp [intOf]; omega)⟩
            · obtain rfl : j = 10 := by omega
              have hng : ¬ ((0 : Int) ≤ 9 - ((10 : Nat) : Int)) := by omega
              have HP3 : ∀ ov W, Hid (OGP wo W ov (mp0 C false ++ mp1 C false ++ (mp2 C false).take 10)) → Hid (OGP wo W ov (mp0 C false ++ mp1 C false ++ mp2 C false ++ (mp3 C false).take 0)) := fun ov W h => by show OGP _ _ _ _; have h2 := h.out; rw [List.take_of_length_le (by simp [mp2]; decide)] at h2; simpa using h2
              have HP3 := HP3 _ _ hO
              clear hO
              go_wp2
              go_loopw [8, 13] (fun ov iv wr => ∃ j : Nat, j ≤ 10 ∧ iv = .int .i64 (9 - (j : Int)) ∧ Hid (OGP wo wr ov (mp0 C false ++ mp1 C false ++ mp2 C false ++ (mp3 C false).take j))) (fun _ iv _ => (intOf iv + 1).toNat)
              case atStart => exact ⟨0, by omega, rfl, HP3.out⟩
              case round =>
                clear HP3
                obtain ⟨j, hj, rfl, hO⟩ := hrel
                by_cases hlt : j < 10
                · obtain ⟨x, y, hxy, h0, h1, h2, h3, hx9, hy9⟩ := mp_get C false hC 3 j (by omega) hlt
                  have HNX : Hid (mp0 C false ++ mp1 C false ++ mp2 C false ++ (mp3 C false).take (j + 1) = (mp0 C false ++ mp1 C false ++ mp2 C false ++ (mp3 C false).take j) ++ [(x, y)]) := by show _ = _; rw [take_snoc _ (0, 0) (by rw [(mp_length C false).2.2.2]; exact hlt), ← List.append_assoc]; exact congrArg (fun p => _ ++ [p]) hxy
                  have HLE : Hid ((mp0 C false ++ mp1 C false ++ mp2 C false ++ (mp3 C false).take j).length ≤ 100) := by
                    show _ ≤ _
                    have := mp_length C false
                    have hn : (offN false).length = 10 := rfl
                    simp only [List.length_append, List.length_take, List.length_nil, this.1, this.2.1, this.2.2.1, this.2.2.2, hn]
                    omega
                  have he := h3 rfl
                  have hx := he.1
                  have hy := he.2
                  obtain ⟨jr, hjr⟩ : ∃ jr, jr = 10 - 1 - j := ⟨_, rfl⟩
                  have hjr2 : (9 : Int) - (j : Int) = (jr : Int) := by omega
                  have hjr9 : jr < 10 := by omega
                  have hjr10 : (jr : Int) < 10 := by omega
                  have hjr3 : (9 : Int) - ((j + 1 : Nat) : Int) = (jr : Int) - 1 := by omega
                  have HJ3 := Lib.hid hjr3
                  clear hjr3
                  have hcj : (offN false).getD jr 0 = (offN false).getD ((offN false).length - 1 - j) 0 := by rw [hjr]; rfl
                  rw [← hcj] at hy
                  have ho := off_get (c := false) (j := jr) hjr9
                  have CFJ : Hid (∀ W, Abv wo W → W.cell? ((⟨ob, 0, none⟩ : Addr).add jr) = some (.int .i64 ((offN false).getD jr 0))) := fun W hW => CFO.out W hW _ hjr9
                  simp only [mkN, Bool.false_eq_true, if_false, if_true] at hx hy ho
                  generalize (offN false).getD jr 0 = oo at *
                  have ho1 : -7 ≤ oo := by omega
                  have ho2 : oo ≤ 7 := by omega
                  have hmm : (C : Int) - 7 = (x : Int) := by omega
                  clear hx
                  clear h0 h1 h2 h3 he hxy hcj ho hjr
                  have fo := CFJ.out _ hO.out.B
                  rw [add_plain, Nat.zero_add] at fo
                  generalize mp0 C false ++ mp1 C false ++ mp2 C false ++ (mp3 C false).take j = ls at *
                  rw [hjr2]
                  go_wp2_with (at_builtin; refine wpList_append_pts (ownsRow_below hO.out.O (bwA _ _)) (Nat.le_trans hO.out.B.size (by simp)) rfl _ _ rfl rfl ⟨wr.heap.size, 0, none⟩ 1 1 [(x, y)] rfl rfl (lit_pts wr [(x, y)] _) (by have := HLE.out; omega) ?_; intro v6 w6 hown hg hat; have HP := Lib.hid (hO.out.grow (bwA _ _) hown hg); clear hown hg hat)
                  first | exact ⟨⟨j + 1, by omega, by rw [HJ3.out], by show OGP _ _ _ _; rw [HNX.out]; exact HP.out⟩, by first | (simp [intOf]; done) | (simp [intOf]; omega)⟩ | exact ⟨⟨_, _, _, _, _, _, _, _, _, _, _, _, _, _, _, _, _, _, _, ⟨j + 1, by omega, by rw [HJ3.out], by show OGP _ _ _ _; rw [HNX.out]; exact HP.out⟩, rfl⟩, by show (intOf (.int .i64 ((jr : Int) - 1)) + 1).toNat < (intOf (.int .i64 (jr : Int)) + 1).toNat; first | (simp [intOf]; done) | (simp [intOf]; omega)⟩
                · obtain rfl : j = 10 := by omega
                  have hng : ¬ ((0 : Int) ≤ 9 - ((10 : Nat) : Int)) := by omega
                  have HEND : ∀ ov W, Hid (OGP wo W ov (mp0 C false ++ mp1 C false ++ mp2 C false ++ (mp3 C false).take 10)) → Hid (OGP wo W ov (modeL C false)) := fun ov W h => by show OGP _ _ _ _; have h2 := h.out; rw [List.take_of_length_le (by simp [mp3]; decide)] at h2; rw [modeL_parts]; exact h2
                  have HEND := HEND _ _ hO
                  clear hO
                  go_wp2
                  go_ret
                  exact ⟨_, rfl, (SPf.of_own HEND.out.O).mono HWO.out.size, bwStep HWO.out HEND.out.B⟩
theorem rmodePath_any (L : Nat) (c : Bool) (w : World) (h1 : 1 ≤ L) (hL : L ≤ 32) : Calls Tryz.prog 52 #[.int .i64 L, .bool c] w fun e w' => ∃ v, e = .returned v ∧ SPf w.heap.size w' v (modeL (cenN L c) c) ∧ Below w.heap.size w w' := by
  cases c with
  | true => exact rmodePath_true L w h1 hL
  | false => exact rmodePath_false L w h1 hL
theorem modePath_any (s C : Nat) (c : Bool) (w : World) (hC : mkN c ≤ C) (hC2 : C ≤ 100000000) : Calls Tryz.prog 43 #[gridV s c C (mkN c)] w fun e w' => ∃ v, e = .returned v ∧ SPf w.heap.size w' v (modeL C c) ∧ Below w.heap.size w w' := by
  cases c with
  | true => exact modePath_true s C w hC hC2
  | false => exact modePath_false s C w hC hC2
def pathE (L : Int) (c : Bool) : Int := if exB L c = true then 0 else 14
def pathD (L : Int) (c : Bool) : List Pt := if exB L c = true then dataL L.toNat c else []
def pathM (L : Int) (c : Bool) : List Pt := if exB L c = true then modeL (cenN L.toNat c) c else []
def PathR (w : World) (L : Int) (c : Bool) (e : Ending) (w' : World) : Prop := ∃ v u, e = .returned (.tuple #[v, u, .int .i64 (pathE L c)]) ∧ SP w' v (pathD L c) ∧ SP w' u (pathM L c) ∧ Below w.heap.size w w'
set_option maxHeartbeats 1000000 in
theorem rPath_any (L : Int) (c : Bool) (w : World) : Calls Tryz.prog 19 #[.int .i64 L, .bool c] w (PathR w L c) := by
  have HEX : Hid (∀ W, Calls Tryz.prog 47 #[.int .i64 L, .bool c] W fun e w' => e = .returned (.bool (exB L c)) ∧ w' = W) := fun W => right_any L c W
  cases hx : exB L c with
  | false =>
    have HF : Hid (pathE L c = 14 ∧ pathD L c = [] ∧ pathM L c = []) := by show _ ∧ _ ∧ _; unfold pathE pathD pathM; rw [hx]; exact ⟨rfl, rfl, rfl⟩
    rw [hx] at HEX
    clear hx
    go_enter Tryz.func19, Tryz.ntmps19
    go_wp2_with (go_at_call 47; refine (HEX.out _).mono ?_; rintro e w1 ⟨rfl, hw1⟩; rw [hw1]; clear hw1)
    go_ret3
    exact ⟨_, _, by rw [HF.out.1]; rfl, by rw [HF.out.2.1]; exact SP.nil_ _, by rw [HF.out.2.2]; exact SP.nil_ _, Below.refl _ _⟩
  | true =>
    obtain ⟨k, rfl, h1, h2, h3⟩ := exB_nat hx
    have HF : Hid (pathE k c = 0 ∧ pathD k c = dataL k c ∧ pathM k c = modeL (cenN k c) c) := by show _ ∧ _ ∧ _; unfold pathE pathD pathM; rw [hx]; exact ⟨rfl, rfl, rfl⟩
    have HD : Hid (∀ W, Calls Tryz.prog 51 #[.int .i64 k, .bool c] W fun e w' => ∃ v, e = .returned v ∧ SP w' v (dataL k c) ∧ Below W.heap.size W w') := fun W => rdataPath_any k c W h2
    have HM : Hid (∀ W, Calls Tryz.prog 52 #[.int .i64 k, .bool c] W fun e w' => ∃ v, e = .returned v ∧ SPf W.heap.size w' v (modeL (cenN k c) c) ∧ Below W.heap.size W w') := fun W => rmodePath_any k c W h1 h2
    rw [hx] at HEX
    clear hx h3
    go_enter Tryz.func19, Tryz.ntmps19
    go_wp2_with (first
      | (go_at_call 47; refine (HEX.out _).mono ?_; rintro e w1 ⟨rfl, hw1⟩; rw [hw1]; clear hw1)
      | (go_at_call 51; refine (HD.out _).mono ?_; rintro e w2 ⟨v2, rfl, hs2, hb2⟩; have HS2 := Lib.hid hs2; have HB2 := Lib.hid hb2; clear hs2 hb2)
      | (go_at_call 52; refine (HM.out _).mono ?_; rintro e w3 ⟨v3, rfl, hs3, hb3⟩; have HS3 := Lib.hid hs3; have HB3 := Lib.hid hb3; clear hs3 hb3))
    go_ret3
    exact ⟨_, _, by rw [HF.out.1]; rfl, by rw [HF.out.2.1]; exact HS2.out.below HB3.out, by rw [HF.out.2.2]; exact HS3.out.1, bwStep HB2.out HB3.out⟩
set_option maxHeartbeats 1000000 in
theorem Path_any (L : Int) (c : Bool) (w : World) : Calls Tryz.prog 15 #[.int .i64 L, .bool c] w (PathR w L c) := by
  have CF := sym_cells w L c
  have HEX : Hid (∀ W, Calls Tryz.prog 29 #[symv L c] W fun e w' => e = .returned (.bool (exB L c)) ∧ Below W.heap.size W w') := fun W => exists_any L c W
  cases hx : exB L c with
  | false =>
    have HF : Hid (pathE L c = 14 ∧ pathD L c = [] ∧ pathM L c = []) := by show _ ∧ _ ∧ _; unfold pathE pathD pathM; rw [hx]; exact ⟨rfl, rfl, rfl⟩
    rw [hx] at HEX
    clear hx
    go_enter Tryz.func15, Tryz.ntmps15
    go_wp2_with (go_at_call 29; refine (HEX.out _).mono ?_; rintro e w1 ⟨rfl, hb1⟩; have HB1 := Lib.hid hb1; clear hb1; obtain ⟨f0, f1⟩ := CF.out _ HB1.out)
    go_ret3
    exact ⟨_, _, by rw [HF.out.1]; rfl, by rw [HF.out.2.1]; exact SP.nil_ _, by rw [HF.out.2.2]; exact SP.nil_ _, bw1 HB1.out⟩
  | true =>
    obtain ⟨k, rfl, h1, h2, h3⟩ := exB_nat hx
    have HF : Hid (pathE k c = 0 ∧ pathD k c = dataL k c ∧ pathM k c = modeL (cenN k c) c) := by show _ ∧ _ ∧ _; unfold pathE pathD pathM; rw [hx]; exact ⟨rfl, rfl, rfl⟩
    have hcl := cen_le (c := c) h1 h2
    have hsl := side_le (c := c) h2
    have HD : Hid (∀ W, Calls Tryz.prog 46 #[symv k c] W fun e w' => ∃ v, e = .returned v ∧ SPf W.heap.size w' v (dataL k c) ∧ Below W.heap.size W w') := fun W => path_any k c W h2
    have HSI : Hid (∀ W, Calls Tryz.prog 36 #[symv k c] W fun e w' => e = .returned (.int .i64 ((sideN k c : Nat) : Int)) ∧ Below W.heap.size W w') := fun W => side_any k c W h2
    have HG : Hid (∀ W, Calls Tryz.prog 39 #[.int .i64 ((sideN k c : Nat) : Int), .bool c] W fun e w' => e = .returned (gridV (sideN k c) c (cenN k c) (mkN c)) ∧ Below W.heap.size W w') := fun W => newGrid_any (sideN k c) c W (by omega) (by omega)
    have HM : Hid (∀ W, Calls Tryz.prog 43 #[gridV (sideN k c) c (cenN k c) (mkN c)] W fun e w' => ∃ v, e = .returned v ∧ SPf W.heap.size w' v (modeL (cenN k c) c) ∧ Below W.heap.size W w') := fun W => modePath_any (sideN k c) (cenN k c) c W (by omega) (by omega)
    rw [hx] at HEX
    generalize dataL k c = dl at *
    generalize modeL (cenN k c) c = ml at *
    generalize sideN k c = S at *
    generalize cenN k c = C at *
    generalize mkN c = mm at *
    clear hx h3 hcl hsl
    go_enter Tryz.func15, Tryz.ntmps15
    go_wp2_with (go_at_call 29; refine (HEX.out _).mono ?_; rintro e w1 ⟨rfl, hb1⟩; have HB1 := Lib.hid hb1; clear hb1; obtain ⟨f0, f1⟩ := CF.out _ HB1.out)
    clear f0 f1
    refine wp_region_W (S := Abv (w.alloc (symB k c))) [(false, 0), (false, 2), (false, 4), (true, 1), (true, 3), (true, 5), (true, 6), (false, 7), (false, 8), (false, 9)] (by kernel_rfl) (by kernel_rfl) (bwDrew HB1.out) ?_
    simp only [attachW, List.getElem?_cons_zero, List.getElem?_cons_succ]
    repeat
      refine' wpHX_val rfl (fun W hW => ?_) ?_
      rotate_left
      · have hcf := CF.out W hW; go_simp; rfl
      simp only [Act.put, List.setIfInBounds_toArray, List.set_cons_zero, List.set_cons_succ]
    refine' wpHX_acall rfl (fun W => ?_) ?_
    rotate_left 2
    · go_simp; exact ⟨rfl, rfl⟩
    refine (HD.out _).mono ?_
    rintro e w2 ⟨v2, rfl, hs2, hb2⟩
    obtain ⟨⟨A2, c2, rfl, -⟩, -⟩ := id hs2
    have HS2 := Lib.hid hs2.1
    have HB2 : Hid (Abv (w.alloc (symB k c)) w2) := bwStep (bwDrew HB1.out) hb2
    clear hs2 hb2
    refine ⟨_, rfl, HB2.out, ?_⟩
    simp only [Act.put, List.setIfInBounds_toArray, List.set_cons_zero, List.set_cons_succ]
    refine' wpHX_acall rfl (fun W => ?_) ?_
    rotate_left 2
    · go_simp; exact ⟨rfl, rfl⟩
    refine (HSI.out _).mono ?_
    rintro e w3 ⟨rfl, hb3⟩
    have HS3 := Lib.hid (HS2.out.below hb3)
    have HB3 : Hid (Abv (w.alloc (symB k c)) w3) := bwStep HB2.out hb3
    clear hb3
    refine ⟨_, rfl, HB3.out, ?_⟩
    simp only [Act.put, List.setIfInBounds_toArray, List.set_cons_zero, List.set_cons_succ]
    refine' wpHX_acall rfl (fun W => ?_) ?_
    rotate_left 2
    · go_simp; exact ⟨rfl, rfl⟩
    refine (HG.out _).mono ?_
    rintro e w4 ⟨rfl, hb4⟩
    have HS4 := Lib.hid (HS3.out.below hb4)
    have HB4 : Hid (Abv (w.alloc (symB k c)) w4) := bwStep HB3.out hb4
    clear hb4
    refine ⟨_, rfl, HB4.out, ?_⟩
    simp only [Act.put, List.setIfInBounds_toArray, List.set_cons_zero, List.set_cons_succ]
    refine' wpHX_acall rfl (fun W => ?_) ?_
    rotate_left 2
    · go_simp; exact ⟨rfl, rfl⟩
    refine (HM.out _).mono ?_
    rintro e w5 ⟨v5, rfl, hs5, hb5⟩
    obtain ⟨⟨A5, c5, rfl, -⟩, -⟩ := id hs5
    have HS5 := Lib.hid hs5.1
    have HS6 := Lib.hid (HS4.out.below hb5)
    have HB5 : Hid (Abv (w.alloc (symB k c)) w5) := bwStep HB4.out hb5
    clear hs5 hb5
    refine ⟨_, rfl, HB5.out, ?_⟩
    simp only [Act.put, List.setIfInBounds_toArray, List.set_cons_zero, List.set_cons_succ]
    repeat
      refine' wpHX_val rfl (fun W hW => ?_) ?_
      rotate_left
      · have hcf := CF.out W hW; go_simp; rfl
      simp only [Act.put, List.setIfInBounds_toArray, List.set_cons_zero, List.set_cons_succ]
    refine wpHX_nil ?_
    go_wp2
    go_ret3
    exact ⟨_, _, by rw [HF.out.1]; rfl, by rw [HF.out.2.1]; exact HS6.out, by rw [HF.out.2.2]; exact HS5.out, bw1 HB5.out⟩
end Go.Proofs.YtmnlkganmgcpbaaGreatDoor
