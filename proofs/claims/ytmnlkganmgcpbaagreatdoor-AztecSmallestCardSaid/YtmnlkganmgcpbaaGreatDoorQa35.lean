import Derived.Test.YtmnlkganmgcpbaaGreatDoorQa34
namespace Go.Proofs.YtmnlkganmgcpbaaGreatDoor
open Go.RowKit
set_option linter.unusedVariables false
set_option linter.unusedSectionVars false
set_option linter.unusedSimpArgs false
set_option maxRecDepth 100000 in
set_option maxHeartbeats 4000000 in
theorem blank_any (n C m : Nat) (c : Bool) (w : World) (hm : m = mkN c) (hC : m ≤ C) (hn : n = 2 * C + 1) (hn2 : n ≤ 1000) : Calls Tryz.prog 83 #[gridV n c C m] w fun e w' => ∃ db N, N = n * n ∧ e = .returned (matV n n db N) ∧ w.heap.size ≤ db ∧ RowB w' db (fixL n C c) ∧ Below w.heap.size w w' := by
  obtain ⟨N, hN⟩ : ∃ N, N = n * n := ⟨_, rfl⟩
  have hN9 : N ≤ 1000000 := by rw [hN]; exact Nat.mul_le_mul hn2 hn2
  have gN0 : (n : Int) * (n : Int) = (N : Int) := by rw [hN]; simp
  have gN : IntKind.i64.wrap (N : Int) = (N : Int) := wr64 _ (by omega) (by omega)
  have hm5 : 5 ≤ m ∧ m ≤ 7 := by rw [hm]; cases c <;> decide
  have HM := Lib.hid hm
  have HN := Lib.hid hN
  have HDL : Hid ((darkL C m).length = 6 ∧ (lightL C m).length = 6) := ⟨rfl, rfl⟩
  have HDIX : Hid (∀ p ∈ darkL C m, p.1 ≤ 1000 ∧ p.2 ≤ 1000 ∧ ixN n p < N) := by
    show ∀ p ∈ _, _
    intro p hp
    have h := dark_mem (C := C) (s := m) (by omega) hC hp
    exact ⟨by omega, by omega, by rw [hN]; exact ix_lt (by omega) (by omega)⟩
  have HLIX : Hid (∀ p ∈ lightL C m, p.1 ≤ 1000 ∧ p.2 ≤ 1000 ∧ ixN n p < N) := by
    show ∀ p ∈ _, _
    intro p hp
    have h := light_mem (C := C) (s := m) (by omega) hC hp
    exact ⟨by omega, by omega, by rw [hN]; exact ix_lt (by omega) (by omega)⟩
  have HOR : Hid (∀ W, Calls Tryz.prog 88 #[gridV n c C m] W fun e w' => ∃ v u, e = .returned (.tuple #[v, u]) ∧ SPf W.heap.size w' v (darkL C m) ∧ SPf W.heap.size w' u (lightL C m) ∧ Below W.heap.size W w') := fun W => orientation_any n C m c W hC (by omega) hm5.1
  have hn1 : 1 ≤ n := by omega
  have hC9 : C ≤ 1000 := by omega
  have hCn : C < n := by omega
  clear hm hN hn
  obtain ⟨gb, hgb⟩ : ∃ gb, gb = w.heap.size := ⟨_, rfl⟩
  obtain ⟨rb, hrb⟩ : ∃ rb, rb = w.heap.size + 1 := ⟨_, rfl⟩
  obtain ⟨wS, hwS⟩ : ∃ wS, wS = (w.alloc (.cells (gridC n c C m) 71)).alloc (.cells #[.int .i64 0, .int .i64 0, .slice none 0 0] 28) := ⟨_, rfl⟩
  have HWS : Hid (Below w.heap.size w wS) := by show Below _ _ _; rw [hwS]; exact bwAlloc (bwA _ _) _
  have HGR : Hid (RowIs wS gb (gridC n c C m) 71) := by
    show RowIs _ _ _ _
    rw [hwS]
    have h1 : RowIs (w.alloc (.cells (gridC n c C m) 71)) gb (gridC n c C m) 71 := RowIs.new _ _ _ _ hgb
    exact h1.below (bwA _ _)
  have HRR : Hid (RowIs wS rb #[.int .i64 0, .int .i64 0, .slice none 0 0] 28) := by show RowIs _ _ _ _; rw [hwS]; exact RowIs.new _ _ _ _ (by simp [hrb])
  have HRB : Hid (w.heap.size ≤ rb ∧ gb < rb ∧ rb < wS.heap.size) := by show _ ∧ _; rw [hwS, hrb, hgb]; simp
  go_enter Tryz.func83, Tryz.ntmps83
  go_wp2
  simp only [← hrb, ← hwS]
  simp only [← hgb]
  clear hwS
  have HGB := Lib.hid hgb
  clear hgb hrb
  have HD0 : Hid (Below wS.heap.size wS wS.drew) := bwDrew (Below.refl _ _)
  have CF0 : Hid (∀ W, Abv wS W → W.cell? ⟨gb, 0, none⟩ = some (.int .i64 (n : Int))) := fun W hW => (HGR.out.below hW).cell 0 _ rfl
  refine wp_region_TP (S := Abv wS) (.br [(false, 0), (false, 1), (false, 2), (false, 3), (false, 4), (false, 5), (false, 6), (false, 7), (false, 8)] [9, 11] (fun k => if k = 9 then .last [(false, 10), (true, 11), (true, 12)] else .last [(true, 9), (false, 10), (true, 12)])) (PostM wS n N gb) (by kernel_rfl) (by kernel_rfl) HD0.out ?_ ?_
  · simp only [wpTree, attachW, List.getElem?_cons_zero, List.getElem?_cons_succ]
    repeat
      refine' wpHX_val rfl (fun W hW => ?_) ?_
      rotate_left
      · have hcf := CF0.out W hW; go_simp; rfl
      simp only [Act.put, List.setIfInBounds_toArray, List.set_cons_zero, List.set_cons_succ]
    refine wpHX_nil ?_
    intro k hk
    simp only [List.mem_cons, List.not_mem_nil, or_false] at hk
    rcases hk with rfl | rfl
    · simp only [reduceIte, Nat.reduceEqDiff, wpTree, attachW, List.getElem?_cons_zero, List.getElem?_cons_succ]
      refine' wpHX_makeR rfl rfl N (by omega) rfl rfl (bwAlloc HD0.out _) ?_
      simp only [Act.put, List.setIfInBounds_toArray, List.set_cons_zero, List.set_cons_succ]
      refine wpHX_nil ?_
      (try simp only [reduceIte, Nat.reduceEqDiff, wpTree, attachW, List.getElem?_cons_zero, List.getElem?_cons_succ])
      refine' wpHX_val rfl (fun W hW => ?_) ?_
      rotate_left
      · go_simp; rfl
      simp only [Act.put, List.setIfInBounds_toArray, List.set_cons_zero, List.set_cons_succ]
      refine' wpHX_allocA 28 rfl rfl _ matInfo (bwAlloc (bwAlloc HD0.out _) _) ?_
      simp only [Act.put, List.setIfInBounds_toArray, List.set_cons_zero, List.set_cons_succ]
      have HMM := Lib.hid (MatMade.a (n := n) (N := N) HD0.out)
      refine wpHX_storeR 28 rfl _ _ rfl 28 (wS.drew.heap.size + 1) #[.int .i64 0, .int .i64 0, .slice none 0 0] (matC n n wS.drew.heap.size N) (RowIs.new _ _ _ _ (by simp)) (by show _ = _; simp; rfl) rfl matSz rfl (by intro v hv; simp only [List.mem_cons, List.not_mem_nil, or_false] at hv; rcases hv with rfl | rfl | rfl <;> rfl) HMM.out.2.2.1 ?_
      simp only [Act.put, List.setIfInBounds_toArray, List.set_cons_zero, List.set_cons_succ]
      refine wpHX_nil ?_
      refine ⟨_, _, ?_, HMM.out⟩
      simp [Act.put, List.setIfInBounds_toArray, List.set_cons_zero, List.set_cons_succ]
    · simp only [reduceIte, Nat.reduceEqDiff, wpTree, attachW, List.getElem?_cons_zero, List.getElem?_cons_succ]
      refine' wpHX_allocA 28 rfl rfl _ matInfo (bwAlloc HD0.out _) ?_
      simp only [Act.put, List.setIfInBounds_toArray, List.set_cons_zero, List.set_cons_succ]
      refine wpHX_nil ?_
      (try simp only [reduceIte, Nat.reduceEqDiff, wpTree, attachW, List.getElem?_cons_zero, List.getElem?_cons_succ])
      refine' wpHX_makeR rfl rfl N (by omega) rfl rfl (bwAlloc (bwAlloc HD0.out _) _) ?_
      have hsz : (wS.drew.alloc (.cells #[.int .i64 0, .int .i64 0, .slice none 0 0] 28)).heap.size = wS.drew.heap.size + 1 := by simp
      simp only [Act.put, List.setIfInBounds_toArray, List.set_cons_zero, List.set_cons_succ, hsz]
      refine' wpHX_val rfl (fun W hW => ?_) ?_
      rotate_left
      · go_simp; rfl
      simp only [Act.put, List.setIfInBounds_toArray, List.set_cons_zero, List.set_cons_succ]
      have HMM := Lib.hid (MatMade.b (n := n) (N := N) HD0.out)
      refine wpHX_storeR 28 rfl _ _ rfl 28 wS.drew.heap.size #[.int .i64 0, .int .i64 0, .slice none 0 0] (matC n n (wS.drew.heap.size + 1) N) ((RowIs.new wS.drew _ _ _ rfl).below (bwA _ _)) rfl rfl matSz rfl (by intro v hv; simp only [List.mem_cons, List.not_mem_nil, or_false] at hv; rcases hv with rfl | rfl | rfl <;> rfl) HMM.out.2.2.1 ?_
      simp only [Act.put, List.setIfInBounds_toArray, List.set_cons_zero, List.set_cons_succ]
      refine wpHX_nil ?_
      refine ⟨_, _, ?_, HMM.out⟩
      simp [Act.put, List.setIfInBounds_toArray, List.set_cons_zero, List.set_cons_succ]
  · rintro a' wM ⟨db, mb, rfl, hMM⟩
    have HMM := Lib.hid hMM
    clear hMM
    simp only [Act.put, List.setIfInBounds_toArray, List.set_cons_zero, List.set_cons_succ]
    have hs0 := HRB.out
    have hs1 := HMM.out.2.2.1.size
    have hs2 := HMM.out.2.2.2
    have hs3 := lt_of_heap HMM.out.1
    have hs4 := lt_of_heap HMM.out.2.1
    have HNE : Hid (gb ≠ db ∧ mb ≠ db ∧ rb ≠ db ∧ gb < wM.heap.size ∧ mb < wM.heap.size ∧ db < wM.heap.size ∧ w.heap.size ≤ db ∧ rb < wM.heap.size ∧ w.heap.size ≤ wM.heap.size) := by
      show _ ∧ _
      have := HWS.out.size
      have := HGB.out
      omega
    have HBM : Hid (Below w.heap.size w wM) := bwStep HWS.out HMM.out.2.2.1
    have HGM : Hid (RowIs wM gb (gridC n c C m) 71) := HGR.out.below HMM.out.2.2.1
    have HRM : Hid (RowIs wM rb #[.int .i64 0, .int .i64 0, .slice none 0 0] 28) := HRR.out.below HMM.out.2.2.1
    clear hs0 hs1 hs2 hs3 hs4
    have CF : Hid (∀ W, KeepX db wM W → ((W.cell? ⟨gb, 0, none⟩ = some (.int .i64 (n : Int)) ∧ W.cell? ⟨gb, 1, none⟩ = some (.bool c) ∧ W.cell? ⟨gb, 2, none⟩ = some (.int .i64 (C : Int)) ∧ W.cell? ⟨gb, 3, none⟩ = some (.int .i64 (m : Int))) ∧ W.cell? ⟨mb, 0, none⟩ = some (.int .i64 (n : Int)) ∧ W.cell? ⟨mb, 1, none⟩ = some (.int .i64 (n : Int)) ∧ W.cell? ⟨mb, 2, none⟩ = some (.slice (some ⟨db, 0, none⟩) N N))) := by
      show ∀ W, _
      intro W hW
      have h1 := hW.row HGM.out HNE.out.1
      have h2 := hW.row HMM.out.2.1 HNE.out.2.1
      exact ⟨⟨h1.cell 0 _ rfl, h1.cell 1 _ rfl, h1.cell 2 _ rfl, h1.cell 3 _ rfl⟩, h2.cell 0 _ rfl, h2.cell 1 _ rfl, h2.cell 2 _ rfl⟩
    obtain ⟨⟨f0, f1, f2, f3⟩, k0, k1, k2⟩ := CF.out wM (KeepX.refl _ _)
    have HL0 : Hid (RowB wM db (blT n C c 0) ∧ KeepX db wM wM) := by show _ ∧ _; rw [blT_zero, ← HN.out]; exact ⟨HMM.out.1, KeepX.refl _ _⟩
    go_wp2
    clear f0 f1 f2 f3 k0 k1 k2
    go_loopw [28] (fun iv wr => ∃ j : Nat, j ≤ N ∧ iv = .int .i64 j ∧ Hid (RowB wr db (blT n C c j) ∧ KeepX db wM wr)) (fun iv _ => N - (intOf iv).toNat)
    case atStart => exact ⟨0, Nat.zero_le _, rfl, HL0.out⟩
    case round =>
      clear HL0
      obtain ⟨j, hj, rfl, hO⟩ := hrel
      by_cases hlt : j < N
      · obtain ⟨x, hx⟩ : ∃ x, x = j % n := ⟨_, rfl⟩
        obtain ⟨y, hy⟩ : ∃ y, y = j / n := ⟨_, rfl⟩
        have hx9 : x < n := by rw [hx]; exact Nat.mod_lt _ (by omega)
        have hy9 : y < n := by rw [hy]; exact (Nat.div_lt_iff_lt_mul (by omega)).2 (by rw [← HN.out]; exact hlt)
        have hn0 : ¬ n = 0 := by omega
        have ex : (j : Int) % (n : Int) = (x : Int) := by rw [hx]; simp
        have ey : (j : Int) / (n : Int) = (y : Int) := by rw [hy]; simp
        have ex2 : (j : Int).tmod (n : Int) = (x : Int) := by rw [Int.tmod_eq_emod_of_nonneg (by omega)]; exact ex
        have ey2 : (j : Int).tdiv (n : Int) = (y : Int) := by rw [Int.tdiv_eq_ediv_of_nonneg (by omega)]; exact ey
        have gy : IntKind.i64.wrap (y : Int) = (y : Int) := wr64 _ (by omega) (by omega)
        obtain ⟨d, hd⟩ : ∃ d, d = chN C (x, y) := ⟨_, rfl⟩
        have hd9 : d ≤ 1000 := by rw [hd]; unfold chN adN; simp only; omega
        have HDI : Hid (∀ W, Calls Tryz.prog 86 #[gridV n c C m, .int .i64 x, .int .i64 y] W fun e w' => e = .returned (.int .i64 (d : Int)) ∧ Below W.heap.size W w') := fun W => by rw [hd]; exact distance_any n C m x y c W (by omega) (by omega) (by omega)
        have HED : Hid (∀ W, Calls Tryz.prog 87 #[.int .i64 d] W fun e w' => e = .returned (.bool (d % 2 == 0)) ∧ w' = W) := fun W => eyeDark_any d W (by omega)
        have HRF : Hid (∀ W, Calls Tryz.prog 133 #[gridV n c C m, .int .i64 ((x : Int) - (C : Int)), .int .i64 ((y : Int) - (C : Int))] W fun e w' => e = .returned (.bool (refD C (x, y))) ∧ Below W.heap.size W w') := fun W => by rw [← rdI_ref]; exact referenceDark_any n C m c _ _ W
        have HB1 : Hid (d < m → blF C c (j % n, j / n) = (d % 2 == 0)) := by
          show _ → _
          intro h
          unfold blF
          rw [← hx, ← hy, ← hd, if_pos (by rw [← HM.out]; exact h)]
        have HB2 : Hid (¬ d < m → blF C c (j % n, j / n) = (!c && refD C (x, y))) := by
          show _ → _
          intro h
          unfold blF
          rw [← hx, ← hy, ← hd, if_neg (by rw [← HM.out]; exact h)]
        have HST := Lib.hid (@blT_step n C c j)
        have HSK := Lib.hid (@blT_skip n C c j)
        have HLL : Hid (j < (blT n C c j).length) := by show _ < _; rw [blT_length, ← HN.out]; exact hlt
        clear hx hy hd
        have HXC : Hid (∃ u v : Int, u = (x : Int) - (C : Int) ∧ v = (y : Int) - (C : Int)) := ⟨_, _, rfl, rfl⟩
        generalize blF C c (j % n, j / n) = bf at *
        generalize refD C (x, y) = rf at *
        generalize blT n C c j = ll at *
        have hjN : (j : Int) < (N : Int) := by omega
        have HKD : Hid (KeepX db wM wr.drew) := hO.out.2.trans (KeepX.below (bwDrew (Below.refl _ _)))
        have HRD : Hid (RowB wr.drew db ll) := hO.out.1.below (bwDrew (Below.refl _ _))
        by_cases hdm : d < m
        · have hbf := HB1.out hdm
          subst hbf
          have hdI : (d : Int) < (m : Int) := by omega
          clear HB1 HB2 HRF
          go_wp2
          refine wp_region_W (S := (fun W => KeepX db wM W)) [(false, 0), (false, 1), (false, 2), (false, 3), (false, 4), (false, 5), (false, 6), (false, 7), (false, 8), (false, 9)] (by kernel_rfl) (by kernel_rfl) HKD.out ?_
          simp only [attachW, List.getElem?_cons_zero, List.getElem?_cons_succ]
          repeat
            refine' wpHX_val rfl (fun W hW => ?_) ?_
            rotate_left
            · have hcf := CF.out W hW; go_simp; rfl
            simp only [Act.put, List.setIfInBounds_toArray, List.set_cons_zero, List.set_cons_succ]
          refine wpHX_nil ?_
          obtain ⟨⟨f0, f1, f2, f3⟩, k0, k1, k2⟩ := CF.out wr.drew HKD.out
          go_wp2_with (go_at_call 86; refine (HDI.out _).mono ?_; rintro e w1 ⟨rfl, hb1⟩; have HK1 : Hid (KeepX db wM w1) := HKD.out.trans (KeepX.below hb1); have HR1 : Hid (RowB w1 db ll) := HRD.out.below hb1; clear hb1 f0 f1 f2 f3 k0 k1 k2 HDI; obtain ⟨⟨f0, f1, f2, f3⟩, k0, k1, k2⟩ := CF.out w1 HK1.out)
          have HK2 : Hid (KeepX db wM w1.drew) := HK1.out.trans (KeepX.below (bwDrew (Below.refl _ _)))
          have HR2 : Hid (RowB w1.drew db ll) := HR1.out.below (bwDrew (Below.refl _ _))
          clear f0 f1 f2 f3 k0 k1 k2
          refine wp_region_W (S := (fun W => KeepX db wM W)) [(false, 0), (false, 1), (false, 2), (false, 3), (true, 4), (false, 5), (true, 6)] (by kernel_rfl) (by kernel_rfl) HK2.out ?_
          simp only [attachW, List.getElem?_cons_zero, List.getElem?_cons_succ]
          repeat
            refine' wpHX_val rfl (fun W hW => ?_) ?_
            rotate_left
            · have hcf := CF.out W hW; go_simp; rfl
            simp only [Act.put, List.setIfInBounds_toArray, List.set_cons_zero, List.set_cons_succ]
          refine' wpHX_acall rfl (fun W => ?_) ?_
          rotate_left 2
          · go_simp; exact ⟨rfl, rfl⟩
          refine (HED.out _).mono ?_
          rintro e w2 ⟨rfl, hw2⟩
          rw [hw2]; clear hw2
          refine ⟨_, rfl, HK2.out, ?_⟩
          simp only [Act.put, List.setIfInBounds_toArray, List.set_cons_zero, List.set_cons_succ]
          refine' wpHX_val rfl (fun W hW => ?_) ?_
          rotate_left
          · have hcf := CF.out W hW; go_simp; rfl
          simp only [Act.put, List.setIfInBounds_toArray, List.set_cons_zero, List.set_cons_succ]
          refine' wpHX_askip (w' := w1.drew.setCell ⟨db, j, none⟩ (.bool (d % 2 == 0))) rfl (exec_storeB rfl ⟨db, j, none⟩ _ rfl rfl (HR2.out.cell HLL.out) (frozen_of_row _ _ _ _ _ HR2.out)) (HK2.out.trans (KeepX.setc _)) ?_
          simp only [Act.put, List.setIfInBounds_toArray, List.set_cons_zero, List.set_cons_succ]
          refine wpHX_nil ?_
          have HFIN : Hid (RowB (w1.drew.setCell ⟨db, j, none⟩ (.bool (d % 2 == 0))) db (blT n C c (j + 1)) ∧ KeepX db wM (w1.drew.setCell ⟨db, j, none⟩ (.bool (d % 2 == 0)))) := by
            show _ ∧ _
            rw [← HST.out]
            exact ⟨HR2.out.set _ _, HK2.out.trans (KeepX.setc _)⟩
          go_wp2
          exact ⟨⟨j + 1, by omega, by go_num, HFIN.out⟩, by simp [intOf]; omega⟩
        · have hdI : ¬ (d : Int) < (m : Int) := by omega
          have hmd : m ≤ d := by omega
          have hdf : decide (d < m) = false := by simp; omega
          have HB2' := Lib.hid (HB2.out hdm)
          clear HB1 HB2 HED
          cases c with
          | true =>
            have hbf : bf = false := HB2'.out
            subst hbf
            clear hdm
            have hKF := Lib.hid (HSK.out rfl)
            go_wp2
            refine wp_region_W (S := (fun W => KeepX db wM W)) [(false, 0), (false, 1), (false, 2), (false, 3), (false, 4), (false, 5), (false, 6), (false, 7), (false, 8), (false, 9)] (by kernel_rfl) (by kernel_rfl) HKD.out ?_
            simp only [attachW, List.getElem?_cons_zero, List.getElem?_cons_succ]
            repeat
              refine' wpHX_val rfl (fun W hW => ?_) ?_
              rotate_left
              · have hcf := CF.out W hW; go_simp; rfl
              simp only [Act.put, List.setIfInBounds_toArray, List.set_cons_zero, List.set_cons_succ]
            refine wpHX_nil ?_
            obtain ⟨⟨f0, f1, f2, f3⟩, k0, k1, k2⟩ := CF.out wr.drew HKD.out
            go_wp2_with (go_at_call 86; refine (HDI.out _).mono ?_; rintro e w1 ⟨rfl, hb1⟩; have HK1 : Hid (KeepX db wM w1) := HKD.out.trans (KeepX.below hb1); have HR1 : Hid (RowB w1 db ll) := HRD.out.below hb1; clear hb1 f0 f1 f2 f3 k0 k1 k2 HDI; obtain ⟨⟨f0, f1, f2, f3⟩, k0, k1, k2⟩ := CF.out w1 HK1.out)
            exact ⟨⟨j + 1, by omega, by go_num, by show _ ∧ _; rw [hKF.out]; exact ⟨HR1.out, HK1.out⟩⟩, by simp [intOf]; omega⟩
          | false =>
            have hbf : bf = rf := HB2'.out
            subst hbf
            clear hdm HSK HB2'
            go_wp2
            refine wp_region_W (S := (fun W => KeepX db wM W)) [(false, 0), (false, 1), (false, 2), (false, 3), (false, 4), (false, 5), (false, 6), (false, 7), (false, 8), (false, 9)] (by kernel_rfl) (by kernel_rfl) HKD.out ?_
            simp only [attachW, List.getElem?_cons_zero, List.getElem?_cons_succ]
            repeat
              refine' wpHX_val rfl (fun W hW => ?_) ?_
              rotate_left
              · have hcf := CF.out W hW; go_simp; rfl
              simp only [Act.put, List.setIfInBounds_toArray, List.set_cons_zero, List.set_cons_succ]
            refine wpHX_nil ?_
            obtain ⟨⟨f0, f1, f2, f3⟩, k0, k1, k2⟩ := CF.out wr.drew HKD.out
            go_wp2_with (go_at_call 86; refine (HDI.out _).mono ?_; rintro e w1 ⟨rfl, hb1⟩; have HK1 : Hid (KeepX db wM w1) := HKD.out.trans (KeepX.below hb1); have HR1 : Hid (RowB w1 db ll) := HRD.out.below hb1; clear hb1 f0 f1 f2 f3 k0 k1 k2 HDI; obtain ⟨⟨f0, f1, f2, f3⟩, k0, k1, k2⟩ := CF.out w1 HK1.out)
            have HK2 : Hid (KeepX db wM w1.drew) := HK1.out.trans (KeepX.below (bwDrew (Below.refl _ _)))
            have HR2 : Hid (RowB w1.drew db ll) := HR1.out.below (bwDrew (Below.refl _ _))
            clear f0 f1 f2 f3 k0 k1 k2
            have hwx : IntKind.i64.wrap ((x : Int) - (C : Int)) = (x : Int) - (C : Int) := wr64 _ (by omega) (by omega)
            have hwy : IntKind.i64.wrap ((y : Int) - (C : Int)) = (y : Int) - (C : Int) := wr64 _ (by omega) (by omega)
            refine wp_region_W (S := (fun W => KeepX db wM W)) [(false, 0), (false, 1), (false, 2), (false, 3), (false, 4), (false, 5), (false, 6), (false, 7), (false, 8), (false, 9), (false, 10), (false, 11), (true, 12), (false, 13), (true, 14)] (by kernel_rfl) (by kernel_rfl) HK2.out ?_
            simp only [attachW, List.getElem?_cons_zero, List.getElem?_cons_succ]
            refine' wpHX_val rfl (fun W hW => ?_) ?_
            rotate_left
            · have hcf := CF.out W hW; go_simp; rfl
            simp only [Act.put, List.setIfInBounds_toArray, List.set_cons_zero, List.set_cons_succ]
            refine' wpHX_val rfl (fun W hW => ?_) ?_
            rotate_left
            · have hcf := CF.out W hW; go_simp; rfl
            simp only [Act.put, List.setIfInBounds_toArray, List.set_cons_zero, List.set_cons_succ]
            refine' wpHX_val rfl (fun W hW => ?_) ?_
            rotate_left
            · have hcf := CF.out W hW; go_simp; rfl
            simp only [Act.put, List.setIfInBounds_toArray, List.set_cons_zero, List.set_cons_succ]
            refine' wpHX_val rfl (fun W hW => ?_) ?_
            rotate_left
            · have hcf := CF.out W hW; go_simp; rfl
            simp only [Act.put, List.setIfInBounds_toArray, List.set_cons_zero, List.set_cons_succ]
            refine' wpHX_val rfl (fun W hW => ?_) ?_
            rotate_left
            · have hcf := CF.out W hW; go_simp; rfl
            simp only [Act.put, List.setIfInBounds_toArray, List.set_cons_zero, List.set_cons_succ]
            refine' wpHX_val rfl (fun W hW => ?_) ?_
            rotate_left
            · have hcf := CF.out W hW; go_simp; rfl
            simp only [Act.put, List.setIfInBounds_toArray, List.set_cons_zero, List.set_cons_succ]
            refine' wpHX_val rfl (fun W hW => ?_) ?_
            rotate_left
            · have hcf := CF.out W hW; go_simp; rfl
            simp only [Act.put, List.setIfInBounds_toArray, List.set_cons_zero, List.set_cons_succ]
            refine' wpHX_val rfl (fun W hW => ?_) ?_
            rotate_left
            · have hcf := CF.out W hW; go_simp; rfl
            simp only [Act.put, List.setIfInBounds_toArray, List.set_cons_zero, List.set_cons_succ]
            refine' wpHX_val rfl (fun W hW => ?_) ?_
            rotate_left
            · have hcf := CF.out W hW; go_simp; rfl
            simp only [Act.put, List.setIfInBounds_toArray, List.set_cons_zero, List.set_cons_succ]
            refine' wpHX_val rfl (fun W hW => ?_) ?_
            rotate_left
            · have hcf := CF.out W hW; go_simp; rfl
            simp only [Act.put, List.setIfInBounds_toArray, List.set_cons_zero, List.set_cons_succ]
            refine' wpHX_val rfl (fun W hW => ?_) ?_
            rotate_left
            · have hcf := CF.out W hW; go_simp; rfl
            simp only [Act.put, List.setIfInBounds_toArray, List.set_cons_zero, List.set_cons_succ]
            refine' wpHX_val rfl (fun W hW => ?_) ?_
            rotate_left
            · have hcf := CF.out W hW; go_simp; rfl
            simp only [Act.put, List.setIfInBounds_toArray, List.set_cons_zero, List.set_cons_succ]
            refine' wpHX_acall rfl (fun W => ?_) ?_
            rotate_left 2
            · go_simp; exact ⟨rfl, rfl⟩
            refine (HRF.out _).mono ?_
            rintro e w2 ⟨rfl, hb2⟩
            have HK3 : Hid (KeepX db wM w2) := HK2.out.trans (KeepX.below hb2)
            have HR3 : Hid (RowB w2 db ll) := HR2.out.below hb2
            clear hb2
            refine ⟨_, rfl, HK3.out, ?_⟩
            simp only [Act.put, List.setIfInBounds_toArray, List.set_cons_zero, List.set_cons_succ]
            refine' wpHX_val rfl (fun W hW => ?_) ?_
            rotate_left
            · have hcf := CF.out W hW; go_simp; rfl
            simp only [Act.put, List.setIfInBounds_toArray, List.set_cons_zero, List.set_cons_succ]
            refine' wpHX_askip (w' := w2.setCell ⟨db, j, none⟩ (.bool bf)) rfl (exec_storeB rfl ⟨db, j, none⟩ _ rfl rfl (HR3.out.cell HLL.out) (frozen_of_row _ _ _ _ _ HR3.out)) (HK3.out.trans (KeepX.setc _)) ?_
            simp only [Act.put, List.setIfInBounds_toArray, List.set_cons_zero, List.set_cons_succ]
            refine wpHX_nil ?_
            have HFIN : Hid (RowB (w2.setCell ⟨db, j, none⟩ (.bool bf)) db (blT n C false (j + 1)) ∧ KeepX db wM (w2.setCell ⟨db, j, none⟩ (.bool bf))) := by
              show _ ∧ _
              rw [← HST.out]
              exact ⟨HR3.out.set _ _, HK3.out.trans (KeepX.setc _)⟩
            go_wp2
            exact ⟨⟨j + 1, by omega, by go_num, HFIN.out⟩, by simp [intOf]; omega⟩
      · obtain rfl : N = j := by omega
        obtain ⟨wr0, rfl⟩ : ∃ x, x = wr := ⟨_, rfl⟩
        have HBL : Hid (RowB wr0 db (blankL n C c)) := by show RowB _ _ _; rw [← blT_end, ← HN.out]; exact hO.out.1
        have HK0 : Hid (KeepX db wM wr0) := hO.out.2
        clear hO
        obtain ⟨⟨f0, f1, f2, f3⟩, k0, k1, k2⟩ := CF.out wr0 HK0.out
        go_wp2_with (go_at_call 88; refine (HOR.out _).mono ?_; rintro e w4 ⟨v4, u4, rfl, hs4, hs5, hb4⟩; obtain ⟨A4, c4, rfl, hA1, hA2, hA3⟩ := id hs4.1; obtain ⟨A5, c5, rfl, hA4, hA5, hA6⟩ := id hs5.1; have HS4 := Lib.hid hs4; have HS5 := Lib.hid hs5; have HK4 : Hid (KeepX db wM w4) := HK0.out.trans (KeepX.below hb4); have HR4 : Hid (RowB w4 db (blankL n C c)) := HBL.out.below hb4; have HZ4 : Hid (db < wr0.heap.size) := Nat.lt_of_lt_of_le HNE.out.2.2.2.2.2.1 HK0.out.sz; clear hb4 hs4 hs5 hA1 hA2 hA3 hA4 hA5 hA6 f0 f1 f2 f3 k0 k1 k2)
        have HPp : Hid (RowB w4 db (wrL n (blankL n C c) ((darkL C m).take 0) (tr6.take 0)) ∧ KeepX db w4 w4) := by show _ ∧ _; rw [List.take_zero, wrL_nil]; exact ⟨HR4.out, KeepX.refl _ _⟩
        have HSPp : Hid (∀ j, j < 6 → ∃ g o, A4 = some ⟨g, o, none⟩ ∧ g < w4.heap.size ∧ g ≠ db ∧ w4.cell? ⟨g, o + j * 2, none⟩ = some (.int .i64 (((darkL C m).getD j (0, 0)).1 : Int)) ∧ w4.cell? ⟨g, o + j * 2 + 1, none⟩ = some (.int .i64 (((darkL C m).getD j (0, 0)).2 : Int))) := by
          show ∀ j, _
          intro j hj
          obtain ⟨A, k, e, -, -, h⟩ := HS4.out.1
          obtain ⟨g, o, e2, h2, h3⟩ := h (by show 0 < 6; omega)
          injection e with e3 _ _
          have h4 : wr0.heap.size ≤ g := HS4.out.2 _ _ _ _ rfl (e3.trans e2)
          have h5 := HZ4.out
          have h6 := h3 j hj
          exact ⟨g, o, e3.trans e2, h2, by omega, h6⟩
        go_wp2
        go_loopw [80] (fun iv wr => ∃ j : Nat, j ≤ 6 ∧ iv = .int .i64 j ∧ Hid (RowB wr db (wrL n (blankL n C c) ((darkL C m).take j) (tr6.take j)) ∧ KeepX db w4 wr)) (fun iv _ => 6 - (intOf iv).toNat)
        case atStart => exact ⟨0, Nat.zero_le _, rfl, HPp.out⟩
        case round =>
          clear HPp
          obtain ⟨j, hj, rfl, hO⟩ := hrel
          by_cases hlt : j < 6
          · obtain ⟨g, o, rfl, hgw, hgd, hx, hy⟩ := HSPp.out j hlt
            have hpm : (darkL C m).getD j (0, 0) ∈ darkL C m := by
              have : j < (darkL C m).length := hlt
              simp only [List.getD, List.getElem?_eq_getElem this, Option.getD_some]; exact List.getElem_mem this
            obtain ⟨hp1, hp2, hixj⟩ := HDIX.out _ hpm
            have hbj : tr6.getD j false = true := by
              have : ∀ j, j < 6 → tr6.getD j false = true := by decide
              exact this j hlt
            have HSTEP : Hid (wrL n (blankL n C c) ((darkL C m).take (j + 1)) (tr6.take (j + 1)) = (wrL n (blankL n C c) ((darkL C m).take j) (tr6.take j)).set (ixN n ((darkL C m).getD j (0, 0))) true) := by
              have := wrL_take n (blankL n C c) (darkL C m) tr6 (i := j) hlt hlt
              rw [hbj] at this
              exact this
            have HLL : Hid ((wrL n (blankL n C c) ((darkL C m).take j) (tr6.take j)).length = N) := by show _ = _; rw [wrL_length, blankL_length, HN.out]
            generalize (darkL C m).getD j (0, 0) = p at *
            generalize wrL n (blankL n C c) ((darkL C m).take j) (tr6.take j) = ll at *
            have hKM : KeepX db wM wr := HK4.out.trans hO.out.2
            have e1 : wr.cell? ⟨g, o + j * 2, none⟩ = some (.int .i64 (p.1 : Int)) := (hO.out.2.cell (a := ⟨g, o + j * 2, none⟩) hgw hgd).trans hx
            have e2 : wr.cell? ⟨g, o + j * 2 + 1, none⟩ = some (.int .i64 (p.2 : Int)) := (hO.out.2.cell (a := ⟨g, o + j * 2 + 1, none⟩) hgw hgd).trans hy
            obtain ⟨wP, hwP⟩ : ∃ wP, wP = wr.alloc (.cells #[.int .i64 (p.1 : Int), .int .i64 (p.2 : Int)] 47) := ⟨_, rfl⟩
            obtain ⟨pb, hpb⟩ : ∃ pb, pb = wr.heap.size := ⟨_, rfl⟩
            have HWP : Hid (Below wr.heap.size wr wP) := by show Below _ _ _; rw [hwP]; exact bwA _ _
            have HPR : Hid (RowIs wP pb #[.int .i64 (p.1 : Int), .int .i64 (p.2 : Int)] 47) := by show RowIs _ _ _ _; rw [hwP, hpb]; exact RowIs.new _ _ _ _ (by simp)
            have HRB2 : Hid (RowB wP db ll) := hO.out.1.below HWP.out
            have HKP : Hid (KeepX db wM wP) := hKM.trans (KeepX.below HWP.out)
            have HKX : Hid (KeepX db w4 wP) := hO.out.2.trans (KeepX.below HWP.out)
            have hp0 : wP.cell? ⟨pb, 0, none⟩ = some (.int .i64 (p.1 : Int)) := HPR.out.cell 0 _ rfl
            have hp1' : wP.cell? ⟨pb, 1, none⟩ = some (.int .i64 (p.2 : Int)) := HPR.out.cell 1 _ rfl
            obtain ⟨⟨f0, f1, f2, f3⟩, k0, k1, k2⟩ := CF.out wP HKP.out
            obtain ⟨q, hq⟩ : ∃ q, q = p.2 * n := ⟨_, rfl⟩
            obtain ⟨ix, hixe⟩ : ∃ ix, ix = ixN n p := ⟨_, rfl⟩
            have hiq : ix = q + p.1 := by rw [hixe, hq]; rfl
            rw [← hixe] at hixj HSTEP
            have hq9 : q ≤ 1000000 := by omega
            have gq0 : (p.2 : Int) * (n : Int) = (q : Int) := by rw [hq]; simp
            have gq : IntKind.i64.wrap (q : Int) = (q : Int) := wr64 _ (by omega) (by omega)
            have gi : IntKind.i64.wrap ((q : Int) + (p.1 : Int)) = (ix : Int) := by rw [wr64 _ (by omega) (by omega)]; omega
            have gi2 : (q : Int) + (p.1 : Int) = (ix : Int) := by omega
            have hix2 : (ix : Int) < (N : Int) := by omega
            have HIX2 : Hid (ix < ll.length) := by show _ < _; rw [HLL.out]; exact hixj
            have hj6 : (j : Int) < 6 := by omega
            have hcx : wP.cell? ⟨db, ix, none⟩ = some (.bool (ll.getD ix false)) := HRB2.out.cell HIX2.out
            have hfx : wP.frozen? ⟨db, ix, none⟩ = false := frozen_of_row _ _ _ _ _ HRB2.out
            have HFIN : Hid (RowB (wP.setCell ⟨db, ix, none⟩ (.bool true)) db (wrL n (blankL n C c) ((darkL C m).take (j + 1)) (tr6.take (j + 1))) ∧ KeepX db w4 (wP.setCell ⟨db, ix, none⟩ (.bool true))) := by
              show _ ∧ _
              rw [HSTEP.out]
              exact ⟨HRB2.out.set _ _, HKX.out.trans (KeepX.setc _)⟩
            rw [hwP] at f0 f1 f2 f3 k0 k1 k2 hcx hfx HFIN hp0 hp1'
            rw [hpb] at hp0 hp1'
            clear hq hixe hiq hpm HLL hbj hx hy hKM hwP hpb
            go_wp2
            exact ⟨⟨j + 1, by omega, by go_num, HFIN.out⟩, by simp [intOf]; omega⟩
          · obtain rfl : j = 6 := by omega
            have HEp : Hid (RowB wr db (wrL n (blankL n C c) (darkL C m) tr6)) := hO.out.1
            have HKEp : Hid (KeepX db w4 wr) := hO.out.2
            clear hO
            have HS5W : Hid (SPf wr0.heap.size w4 (.slice A5 (lightL C m).length c5) (lightL C m)) := HS5
            obtain ⟨w5, rfl⟩ : ∃ x, x = wr := ⟨_, rfl⟩
            have HKW : Hid (KeepX db wM w5) := HK4.out.trans HKEp.out
            have HSP5 : Hid (SPf wr0.heap.size w5 (.slice A5 (lightL C m).length c5) (lightL C m)) := by
              obtain ⟨⟨A, k, e, h1, h2, h3⟩, h4⟩ := HS5.out
              refine ⟨⟨A, k, e, h1, h2, fun h0 => ?_⟩, h4⟩
              obtain ⟨g, o, e2, h5, h6⟩ := h3 h0
              have h7 := h4 A _ _ _ e e2
              have h8 := HZ4.out
              have h9 : g ≠ db := by show g ≠ db; have : wr0.heap.size ≤ g := h7; omega
              exact ⟨g, o, e2, Nat.lt_of_lt_of_le h5 HKEp.out.sz, fun j hj => ⟨(HKEp.out.cell (a := ⟨g, o + j * 2, none⟩) h5 h9).trans (h6 j hj).1, (HKEp.out.cell (a := ⟨g, o + j * 2 + 1, none⟩) h5 h9).trans (h6 j hj).2⟩⟩
            have HR5 := HEp
            have HZ5 := HZ4
            clear HS5W
            have HS5W := HSP5
            have HPq : Hid (RowB w5 db (wrL n (wrL n (blankL n C c) (darkL C m) tr6) ((lightL C m).take 0) (fa6.take 0)) ∧ KeepX db w5 w5) := by show _ ∧ _; rw [List.take_zero, wrL_nil]; exact ⟨HR5.out, KeepX.refl _ _⟩
            have HSPq : Hid (∀ j, j < 6 → ∃ g o, A5 = some ⟨g, o, none⟩ ∧ g < w5.heap.size ∧ g ≠ db ∧ w5.cell? ⟨g, o + j * 2, none⟩ = some (.int .i64 (((lightL C m).getD j (0, 0)).1 : Int)) ∧ w5.cell? ⟨g, o + j * 2 + 1, none⟩ = some (.int .i64 (((lightL C m).getD j (0, 0)).2 : Int))) := by
              show ∀ j, _
              intro j hj
              obtain ⟨A, k, e, -, -, h⟩ := HS5W.out.1
              obtain ⟨g, o, e2, h2, h3⟩ := h (by show 0 < 6; omega)
              injection e with e3 _ _
              have h4 : wr0.heap.size ≤ g := HS5W.out.2 _ _ _ _ rfl (e3.trans e2)
              have h5 := HZ5.out
              have h6 := h3 j hj
              exact ⟨g, o, e3.trans e2, h2, by omega, h6⟩
            go_wp2
            go_loopw [98] (fun iv wr => ∃ j : Nat, j ≤ 6 ∧ iv = .int .i64 j ∧ Hid (RowB wr db (wrL n (wrL n (blankL n C c) (darkL C m) tr6) ((lightL C m).take j) (fa6.take j)) ∧ KeepX db w5 wr)) (fun iv _ => 6 - (intOf iv).toNat)
            case atStart => exact ⟨0, Nat.zero_le _, rfl, HPq.out⟩
            case round =>
              clear HPq
              obtain ⟨j, hj, rfl, hO⟩ := hrel
              by_cases hlt : j < 6
              · obtain ⟨g, o, rfl, hgw, hgd, hx, hy⟩ := HSPq.out j hlt
                have hpm : (lightL C m).getD j (0, 0) ∈ lightL C m := by
                  have : j < (lightL C m).length := hlt
                  simp only [List.getD, List.getElem?_eq_getElem this, Option.getD_some]; exact List.getElem_mem this
                obtain ⟨hp1, hp2, hixj⟩ := HLIX.out _ hpm
                have hbj : fa6.getD j false = false := by
                  have : ∀ j, j < 6 → fa6.getD j false = false := by decide
                  exact this j hlt
                have HSTEP : Hid (wrL n (wrL n (blankL n C c) (darkL C m) tr6) ((lightL C m).take (j + 1)) (fa6.take (j + 1)) = (wrL n (wrL n (blankL n C c) (darkL C m) tr6) ((lightL C m).take j) (fa6.take j)).set (ixN n ((lightL C m).getD j (0, 0))) false) := by
                  have := wrL_take n (wrL n (blankL n C c) (darkL C m) tr6) (lightL C m) fa6 (i := j) hlt hlt
                  rw [hbj] at this
                  exact this
                have HLL : Hid ((wrL n (wrL n (blankL n C c) (darkL C m) tr6) ((lightL C m).take j) (fa6.take j)).length = N) := by show _ = _; rw [wrL_length, wrL_length, blankL_length, HN.out]
                generalize (lightL C m).getD j (0, 0) = p at *
                generalize wrL n (wrL n (blankL n C c) (darkL C m) tr6) ((lightL C m).take j) (fa6.take j) = ll at *
                have hKM : KeepX db wM wr := HKW.out.trans hO.out.2
                have e1 : wr.cell? ⟨g, o + j * 2, none⟩ = some (.int .i64 (p.1 : Int)) := (hO.out.2.cell (a := ⟨g, o + j * 2, none⟩) hgw hgd).trans hx
                have e2 : wr.cell? ⟨g, o + j * 2 + 1, none⟩ = some (.int .i64 (p.2 : Int)) := (hO.out.2.cell (a := ⟨g, o + j * 2 + 1, none⟩) hgw hgd).trans hy
                obtain ⟨wP, hwP⟩ : ∃ wP, wP = wr.alloc (.cells #[.int .i64 (p.1 : Int), .int .i64 (p.2 : Int)] 47) := ⟨_, rfl⟩
                obtain ⟨pb, hpb⟩ : ∃ pb, pb = wr.heap.size := ⟨_, rfl⟩
                have HWP : Hid (Below wr.heap.size wr wP) := by show Below _ _ _; rw [hwP]; exact bwA _ _
                have HPR : Hid (RowIs wP pb #[.int .i64 (p.1 : Int), .int .i64 (p.2 : Int)] 47) := by show RowIs _ _ _ _; rw [hwP, hpb]; exact RowIs.new _ _ _ _ (by simp)
                have HRB2 : Hid (RowB wP db ll) := hO.out.1.below HWP.out
                have HKP : Hid (KeepX db wM wP) := hKM.trans (KeepX.below HWP.out)
                have HKX : Hid (KeepX db w5 wP) := hO.out.2.trans (KeepX.below HWP.out)
                have hp0 : wP.cell? ⟨pb, 0, none⟩ = some (.int .i64 (p.1 : Int)) := HPR.out.cell 0 _ rfl
                have hp1' : wP.cell? ⟨pb, 1, none⟩ = some (.int .i64 (p.2 : Int)) := HPR.out.cell 1 _ rfl
                obtain ⟨⟨f0, f1, f2, f3⟩, k0, k1, k2⟩ := CF.out wP HKP.out
                obtain ⟨q, hq⟩ : ∃ q, q = p.2 * n := ⟨_, rfl⟩
                obtain ⟨ix, hixe⟩ : ∃ ix, ix = ixN n p := ⟨_, rfl⟩
                have hiq : ix = q + p.1 := by rw [hixe, hq]; rfl
                rw [← hixe] at hixj HSTEP
                have hq9 : q ≤ 1000000 := by omega
                have gq0 : (p.2 : Int) * (n : Int) = (q : Int) := by rw [hq]; simp
                have gq : IntKind.i64.wrap (q : Int) = (q : Int) := wr64 _ (by omega) (by omega)
                have gi : IntKind.i64.wrap ((q : Int) + (p.1 : Int)) = (ix : Int) := by rw [wr64 _ (by omega) (by omega)]; omega
                have gi2 : (q : Int) + (p.1 : Int) = (ix : Int) := by omega
                have hix2 : (ix : Int) < (N : Int) := by omega
                have HIX2 : Hid (ix < ll.length) := by show _ < _; rw [HLL.out]; exact hixj
                have hj6 : (j : Int) < 6 := by omega
                have hcx : wP.cell? ⟨db, ix, none⟩ = some (.bool (ll.getD ix false)) := HRB2.out.cell HIX2.out
                have hfx : wP.frozen? ⟨db, ix, none⟩ = false := frozen_of_row _ _ _ _ _ HRB2.out
                have HFIN : Hid (RowB (wP.setCell ⟨db, ix, none⟩ (.bool false)) db (wrL n (wrL n (blankL n C c) (darkL C m) tr6) ((lightL C m).take (j + 1)) (fa6.take (j + 1))) ∧ KeepX db w5 (wP.setCell ⟨db, ix, none⟩ (.bool false))) := by
                  show _ ∧ _
                  rw [HSTEP.out]
                  exact ⟨HRB2.out.set _ _, HKX.out.trans (KeepX.setc _)⟩
                rw [hwP] at f0 f1 f2 f3 k0 k1 k2 hcx hfx HFIN hp0 hp1'
                rw [hpb] at hp0 hp1'
                clear hq hixe hiq hpm HLL hbj hx hy hKM hwP hpb
                go_wp2
                exact ⟨⟨j + 1, by omega, by go_num, HFIN.out⟩, by simp [intOf]; omega⟩
              · obtain rfl : j = 6 := by omega
                have HEq : Hid (RowB wr db (wrL n (wrL n (blankL n C c) (darkL C m) tr6) (lightL C m) fa6)) := hO.out.1
                have HKEq : Hid (KeepX db w5 wr) := hO.out.2
                clear hO
                have HKF : Hid (KeepX db wM wr) := HKW.out.trans HKEq.out
                obtain ⟨⟨f0, f1, f2, f3⟩, k0, k1, k2⟩ := CF.out wr HKF.out
                have HRF : Hid (RowIs wr rb #[.int .i64 0, .int .i64 0, .slice none 0 0] 28) := HKF.out.row HRM.out HNE.out.2.2.1
                have c0 : wr.cell? ⟨rb, 0, none⟩ = some (.int .i64 0) := HRF.out.cell 0 _ rfl
                have c1 : wr.cell? ⟨rb, 1, none⟩ = some (.int .i64 0) := HRF.out.cell 1 _ rfl
                have c2 : wr.cell? ⟨rb, 2, none⟩ = some (.slice none 0 0) := HRF.out.cell 2 _ rfl
                have d0 : wr.frozen? ⟨rb, 0, none⟩ = false := frozen_of_row _ _ _ _ _ HRF.out
                have d1 : wr.frozen? ⟨rb, 1, none⟩ = false := frozen_of_row _ _ _ _ _ HRF.out
                have d2 : wr.frozen? ⟨rb, 2, none⟩ = false := frozen_of_row _ _ _ _ _ HRF.out
                have HBF : Hid (Below w.heap.size w wr) := HBM.out.trans (HKF.out.to HNE.out.2.2.2.2.2.2.1 HNE.out.2.2.2.2.2.2.2.2)
                have HFX : Hid (wrL n (wrL n (blankL n C c) (darkL C m) tr6) (lightL C m) fa6 = fixL n C c) := by show _ = _; unfold fixL; rw [← HM.out]
                have hrb0 : w.heap.size ≤ rb := HRB.out.1
                go_wp2
                refine bodyPost_ret (v := matV n n db N) (by simp [results, Tryz.results83, go_sem, c0, c1, c2, d0, d1, d2]) rfl ⟨db, N, HN.out, rfl, HNE.out.2.2.2.2.2.2.1, ?_, ?_⟩
                · rw [← HFX.out]
                  have hne : db ≠ rb := (HNE.out.2.2.1).symm
                  exact ((RowIs.setcO (RowIs.setcO (RowIs.setcO HEq.out _ _ hne) _ _ hne) _ _ hne))
                · exact ((HBF.out.setCell hrb0 _).setCell hrb0 _).setCell hrb0 _
end Go.Proofs.YtmnlkganmgcpbaaGreatDoor
