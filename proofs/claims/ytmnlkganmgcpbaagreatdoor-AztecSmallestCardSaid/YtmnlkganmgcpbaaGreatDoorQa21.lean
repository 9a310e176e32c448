import Derived.Test.YtmnlkganmgcpbaaGreatDoorQa20
namespace Go.Proofs.YtmnlkganmgcpbaaGreatDoor
open Go.RowKit
set_option linter.unusedVariables false
abbrev qarc (C S be bl : Nat) : Obj := .cells #[.int .i64 C, .int .i64 S, .slice (some ⟨be, 0, none⟩) (S - 1) (S - 1), .slice (some ⟨bl, 0, none⟩) S S] 152
end Go.Proofs.YtmnlkganmgcpbaaGreatDoor
namespace Go.Proofs.YtmnlkganmgcpbaaGreatDoor
open Go.RowKit
set_option linter.unusedVariables false
abbrev qarO0 : Obj := .cells #[.int .i64 0, .int .i64 0, .slice none 0 0, .slice none 0 0] 152
abbrev qarO (C S T be bl : Nat) : Obj := .cells #[.int .i64 C, .int .i64 S, .slice (some ⟨be, 0, none⟩) T T, .slice (some ⟨bl, 0, none⟩) S S] 152
structure QAr (w wr : World) (C S P T n be bl bs : Nat) : Prop where
  B : Below w.heap.size w wr
  he : w.heap.size + 1 < be
  hl : w.heap.size + 1 < bl
  hs : w.heap.size + 1 < bs
  n1 : be ≠ bl
  n2 : be ≠ bs
  n3 : bl ≠ bs
  F : wr.heap[w.heap.size]? = some (fldO C S P)
  R : wr.heap[w.heap.size + 1]? = some qarO0
  E : wr.heap[be]? = some (.cells (cellsN (expTn S P n)) 3)
  L : wr.heap[bl]? = some (.cells (cellsN (logT S P n)) 3)
  A : wr.heap[bs]? = some (qarO C S T be bl)
theorem QAr.below {w wr w2 : World} {C S P T n be bl bs : Nat} (h : QAr w wr C S P T n be bl bs) (hb : Below wr.heap.size wr w2) : QAr w w2 C S P T n be bl bs :=
  ⟨bwStep h.B hb, h.he, h.hl, h.hs, h.n1, h.n2, h.n3, (hb.block _ (lt_of_heap h.F)).trans h.F, (hb.block _ (lt_of_heap h.R)).trans h.R, (hb.block _ (lt_of_heap h.E)).trans h.E, (hb.block _ (lt_of_heap h.L)).trans h.L, (hb.block _ (lt_of_heap h.A)).trans h.A⟩
theorem QAr.store {w wr : World} {C S P T n be bl bs : Nat} (hv : VF C S P) (hT : T = S - 1) (h : QAr w wr C S P T n be bl bs) (hn : n < T) :
    QAr w ((wr.setCell ⟨be, n, none⟩ (.int .i64 ((fpowN S P (genF S P) n : Nat) : Int))).setCell ⟨bl, fpowN S P (genF S P) n, none⟩ (.int .i64 (n : Int))) C S P T (n + 1) be bl bs := by
  have hb1 : Below w.heap.size w (wr.setCell ⟨be, n, none⟩ (.int .i64 ((fpowN S P (genF S P) n : Nat) : Int))) := h.B.setCell (by have := h.he; simp; omega) _
  have o1 : ∀ (k : Nat) (v : Value), k ≠ be → (wr.setCell ⟨be, n, none⟩ v).heap[k]? = wr.heap[k]? := fun k v hk => heap_setCell_other wr ⟨be, n, none⟩ k v hk
  have o2 : ∀ (W : World) (x k : Nat) (v : Value), k ≠ bl → (W.setCell ⟨bl, x, none⟩ v).heap[k]? = W.heap[k]? := fun W x k v hk => heap_setCell_other W ⟨bl, x, none⟩ k v hk
  have e1 := heap_setCell_same wr be n _ 3 (.int .i64 ((fpowN S P (genF S P) n : Nat) : Int)) h.E
  rw [cellsN_set, expTn_set hv (n := n) (by omega)] at e1
  have e2 := heap_setCell_same (wr.setCell ⟨be, n, none⟩ (.int .i64 ((fpowN S P (genF S P) n : Nat) : Int))) bl (fpowN S P (genF S P) n) _ 3 (.int .i64 (n : Int)) ((o1 bl _ (Ne.symm h.n1)).trans h.L)
  rw [cellsN_set, logT_set hv (by omega)] at e2
  have a := h.he
  have b := h.hl
  have c := h.hs
  exact ⟨hb1.setCell (by simp; omega) _, h.he, h.hl, h.hs, h.n1, h.n2, h.n3,
    ((o2 _ _ _ _ (by omega)).trans (o1 _ _ (by omega))).trans h.F, ((o2 _ _ _ _ (by omega)).trans (o1 _ _ (by omega))).trans h.R,
    (o2 _ _ _ _ h.n1).trans e1, e2, ((o2 _ _ _ _ (Ne.symm h.n3)).trans (o1 _ _ (Ne.symm h.n2))).trans h.A⟩
theorem QAr.tab {w wr : World} {C S P T be bl bs : Nat} (hv : VF C S P) (hT : T = S - 1) (h : QAr w wr C S P T T be bl bs) : TabAt wr S P be bl := by
  subst hT
  refine ⟨lt_of_heap h.E, lt_of_heap h.L, fun i hi => ?_, fun x hx h0 => ?_⟩
  · rw [cell_of_row _ _ _ _ _ _ h.E, cellsN_get]
    have := expT_get hv hi
    rw [← expTn_last hv] at this
    rw [← this]
    unfold expTn
    simp [List.getD, hi]
  · rw [cell_of_row _ _ _ _ _ _ h.L, cellsN_get]
    have := logT_get hv hx h0
    rw [← this]
    unfold logT
    simp [List.getD, hx]
theorem QAr.cells {w wr : World} {C S P T n be bl bs : Nat} (hv : VF C S P) (hT : T = S - 1) (h : QAr w wr C S P T n be bl bs) :
    (wr.cell? ⟨w.heap.size, 0, none⟩ = some (.int .i64 C) ∧ wr.cell? ⟨w.heap.size, 1, none⟩ = some (.int .i64 S) ∧ wr.cell? ⟨w.heap.size, 2, none⟩ = some (.int .i64 P)) ∧
    (wr.cell? ⟨bs, 0, none⟩ = some (.int .i64 C) ∧ wr.cell? ⟨bs, 1, none⟩ = some (.int .i64 S) ∧ wr.cell? ⟨bs, 2, none⟩ = some (.slice (some ⟨be, 0, none⟩) T T) ∧ wr.cell? ⟨bs, 3, none⟩ = some (.slice (some ⟨bl, 0, none⟩) S S)) ∧
    (n < T → (∃ u, wr.cell? ⟨be, n, none⟩ = some u) ∧ wr.frozen? ⟨be, n, none⟩ = false ∧ (∃ u, wr.cell? ⟨bl, fpowN S P (genF S P) n, none⟩ = some u) ∧ wr.frozen? ⟨bl, fpowN S P (genF S P) n, none⟩ = false) := by
  refine ⟨⟨?_, ?_, ?_⟩, ⟨?_, ?_, ?_, ?_⟩, fun hn => ⟨?_, ?_, ?_, ?_⟩⟩
  · rw [cell_of_row _ _ _ _ _ _ h.F]; rfl
  · rw [cell_of_row _ _ _ _ _ _ h.F]; rfl
  · rw [cell_of_row _ _ _ _ _ _ h.F]; rfl
  · rw [cell_of_row _ _ _ _ _ _ h.A]; rfl
  · rw [cell_of_row _ _ _ _ _ _ h.A]; rfl
  · rw [cell_of_row _ _ _ _ _ _ h.A]; rfl
  · rw [cell_of_row _ _ _ _ _ _ h.A]; rfl
  · rw [cell_of_row _ _ _ _ _ _ h.E, cellsN_get]
    refine ⟨_, Option.map_eq_some_iff.2 ⟨_, List.getElem?_eq_getElem (by unfold expTn; simp; omega), rfl⟩⟩
  · exact frozen_of_row _ _ _ _ _ h.E
  · rw [cell_of_row _ _ _ _ _ _ h.L, cellsN_get]
    refine ⟨_, Option.map_eq_some_iff.2 ⟨_, List.getElem?_eq_getElem (by unfold logT; simp; exact powN_lt hv n), rfl⟩⟩
  · exact frozen_of_row _ _ _ _ _ h.L
theorem QAr.drew {w wr : World} {C S P T n be bl bs : Nat} (h : QAr w wr C S P T n be bl bs) : QAr w wr.drew C S P T n be bl bs :=
  ⟨bwDrew h.B, h.he, h.hl, h.hs, h.n1, h.n2, h.n3, h.F, h.R, h.E, h.L, h.A⟩
theorem QAr.res {w wr : World} {C S P T n be bl bs : Nat} (h : QAr w wr C S P T n be bl bs) :
    wr.cell? ⟨w.heap.size + 1, 0, none⟩ = some (.int .i64 0) ∧ wr.cell? ⟨w.heap.size + 1, 1, none⟩ = some (.int .i64 0) ∧ wr.cell? ⟨w.heap.size + 1, 2, none⟩ = some (.slice none 0 0) ∧ wr.cell? ⟨w.heap.size + 1, 3, none⟩ = some (.slice none 0 0) ∧ ∀ k, wr.frozen? ⟨w.heap.size + 1, k, none⟩ = false := by
  refine ⟨?_, ?_, ?_, ?_, fun k => frozen_of_row _ _ _ _ _ h.R⟩ <;> (rw [cell_of_row _ _ _ _ _ _ h.R]; rfl)
set_option maxRecDepth 100000 in
set_option maxHeartbeats 4000000 in
theorem qnewA_any (C S P : Nat) (w : World) (hv : VF C S P) :
    Calls Tryz.prog 119 #[fldv C S P] w fun e w' => ∃ be bl, e = .returned (arv C S be bl) ∧ TabAt w' S P be bl ∧ Below w.heap.size w w' ∧ w.heap.size ≤ be ∧ w.heap.size ≤ bl := by
  have hS := hv.le
  have hS2 := hv.two_le
  have hP : (P : Int) ≤ 9223372036854775807 := hv.pbd
  have hg := gen_lt hv
  have RG : Hid (genR C S P = (((genF S P : Nat) : Int), 0)) := by
    show _ = _
    unfold genR; rw [vld_of hv, if_pos rfl]; simp
  obtain ⟨T, hT⟩ : ∃ T, T = S - 1 := ⟨S - 1, rfl⟩
  have hT1 : 1 ≤ T := by omega
  have hmk1 := run_make_row' (P := Tryz.prog) 64 3 (.int .i64 0) 8 Tryz.underlying64 intInfo rfl .i64 .i64 T (by omega) (by omega)
  have hmk2 := run_make_row' (P := Tryz.prog) 64 3 (.int .i64 0) 8 Tryz.underlying64 intInfo rfl .i64 .i64 S (by omega) (by omega)
  have hsub : IntKind.i64.wrap ((S : Int) - 1) = (T : Int) := by rw [wr64 _ (by omega) (by omega)]; omega
  have hsub2 : ((S : Int) - 1) = (T : Int) := by omega
  have HV := Lib.hid hv
  have HT := Lib.hid hT
  have HE : Hid (cellsN (expTn S P 0) = madeCells #[Value.int .i64 0] T) := by show _ = _; rw [cellsN_zero, expTn_zero hv, hT]
  have HL : Hid (cellsN (logT S P 0) = madeCells #[Value.int .i64 0] S) := by show _ = _; rw [cellsN_zero, logT_zero hv]
  clear hT hv
  have HI : Hid (∀ w1 : World, Below ((w.alloc (fldO C S P)).alloc qarO0).heap.size ((w.alloc (fldO C S P)).alloc qarO0) w1 → w.heap.size + 1 < w1.heap.size ∧ w1.heap[w.heap.size]? = some (fldO C S P) ∧ w1.heap[w.heap.size + 1]? = some qarO0 ∧ Below w.heap.size w w1) := by
    intro w1 hb1
    have hs := hb1.size
    simp at hs
    refine ⟨by omega, (hb1.block _ (by simp; omega)).trans ?_, (hb1.block _ (by simp)).trans ?_, ((Below.refl _ _).alloc (Nat.le_refl _) _ |>.alloc (by simp) _).trans (hb1.mono (by simp; omega))⟩
    · exact (Below.heap_alloc _ _ _ (by simp)).trans (heap_alloc_new w _)
    · have := heap_alloc_new (w.alloc (fldO C S P)) qarO0
      simpa using this
  go_enter Tryz.func119, Tryz.ntmps119
  go_wp2_with (go_at_call 158; refine (Generator_any C S P _ (by omega) hP).mono ?_; rintro e w1 ⟨rfl, hb1⟩; rw [RG.out]
               have HW := Lib.hid (HI.out w1 hb1)
               have hlt1 : w.heap.size + 1 < w1.heap.size := HW.out.1
               have hlt0 : w.heap.size < w1.heap.size := by omega
               have hc0 : w1.cell? ⟨w.heap.size, 0, none⟩ = some (.int .i64 C) := (cell_of_row _ _ _ _ _ _ HW.out.2.1).trans rfl
               have hc1 : w1.cell? ⟨w.heap.size, 1, none⟩ = some (.int .i64 S) := (cell_of_row _ _ _ _ _ _ HW.out.2.1).trans rfl
               have hc0a : ∀ o, (w1.alloc o).cell? ⟨w.heap.size, 0, none⟩ = some (.int .i64 C) := fun o => (World.cell?_alloc_lt _ _ _ (by exact hlt0)).trans hc0
               have hc0b : ∀ o o', ((w1.alloc o).alloc o').cell? ⟨w.heap.size, 0, none⟩ = some (.int .i64 C) := fun o o' => (World.cell?_alloc_lt _ _ _ (by simp; omega)).trans (hc0a o)
               have hc0c : ∀ o o' o'', (((w1.alloc o).alloc o').alloc o'').cell? ⟨w.heap.size, 0, none⟩ = some (.int .i64 C) := fun o o' o'' => (World.cell?_alloc_lt _ _ _ (by simp; omega)).trans (hc0b o o')
               have hc1a : ∀ o, (w1.alloc o).cell? ⟨w.heap.size, 1, none⟩ = some (.int .i64 S) := fun o => (World.cell?_alloc_lt _ _ _ (by exact hlt0)).trans hc1
               have hc1b : ∀ o o', ((w1.alloc o).alloc o').cell? ⟨w.heap.size, 1, none⟩ = some (.int .i64 S) := fun o o' => (World.cell?_alloc_lt _ _ _ (by simp; omega)).trans (hc1a o)
               have hc1c : ∀ o o' o'', (((w1.alloc o).alloc o').alloc o'').cell? ⟨w.heap.size, 1, none⟩ = some (.int .i64 S) := fun o o' o'' => (World.cell?_alloc_lt _ _ _ (by simp; omega)).trans (hc1b o o')
               clear hb1)
  go_region
  all_goals clear hc0 hc1 hc0a hc0b hc0c hc1a hc1b hc1c
  all_goals go_wp2
  · go_loopw [6, 28] (fun x i wr => ∃ n : Nat, n ≤ T ∧ i = .int .i64 (n : Nat) ∧ x = .int .i64 ((fpowN S P (genF S P) n : Nat) : Int) ∧ Hid (QAr w wr C S P T n (w1.heap.size) (w1.heap.size + 1) (w1.heap.size + 1 + 1))) (fun _ i _ => T - (intOf i).toNat)
    case atStart =>
      refine ⟨0, Nat.zero_le _, rfl, rfl, ?_⟩
      refine ⟨bwDrew (bwAlloc (bwAlloc (bwAlloc HW.out.2.2.2 _) _) _), by omega, by omega, by omega, by omega, by omega, by omega, ?_, ?_, ?_, ?_, ?_⟩
      · exact (Below.heap_alloc _ _ _ (by simp; omega)).trans ((Below.heap_alloc _ _ _ (by simp; omega)).trans ((Below.heap_alloc _ _ _ (by omega)).trans HW.out.2.1))
      · exact (Below.heap_alloc _ _ _ (by simp; omega)).trans ((Below.heap_alloc _ _ _ (by simp; omega)).trans ((Below.heap_alloc _ _ _ (by omega)).trans HW.out.2.2.1))
      · rw [HE.out]; exact (heap3 w1 _ _ _).1
      · rw [HL.out]; exact (heap3 w1 _ _ _).2.1
      · exact (heap3 w1 _ _ _).2.2
    case round =>
      obtain ⟨n, hn, rfl, rfl, hid⟩ := hrel
      obtain ⟨⟨f0, f1, f2⟩, ⟨a0, a1, a2, a3⟩, hst⟩ := QAr.cells HV.out HT.out hid.out
      by_cases hlt : n < T
      · obtain ⟨⟨u1, s1⟩, s2, ⟨u2, s3⟩, s4⟩ := hst hlt
        have hXl : fpowN S P (genF S P) n < S := powN_lt HV.out n
        have HST := Lib.hid (QAr.store HV.out HT.out hid.out hlt)
        have RM : Hid (mulR C S P (fpowN S P (genF S P) n : Nat) (genF S P : Nat) = (((fpowN S P (genF S P) (n + 1) : Nat) : Int), 0)) := by
          show _ = _
          unfold mulR; rw [ok2_of HV.out hXl hg]; simp; rfl
        generalize fpowN S P (genF S P) n = X at *
        generalize hYe : fpowN S P (genF S P) (n + 1) = Y at *
        have HY := Lib.hid hYe
        clear hYe
        clear hst
        go_wp2
        go_region
        all_goals go_wp2_with (go_at_call 159; refine (Mul_any C S P X (genF S P) _ (by omega) hP).mono ?_; rintro e w2 ⟨rfl, hb2⟩; rw [RM.out])
        all_goals go_roundw
        all_goals try (case measure => simp [intOf]; omega)
        all_goals refine ⟨n + 1, by omega, by go_num, by rw [HY.out], ?_⟩
        all_goals exact QAr.below (QAr.drew HST.out) hb2
      · obtain rfl : n = T := by omega
        obtain ⟨r0, r1, r2, r3, rf⟩ := QAr.res hid.out
        have HTB := Lib.hid (QAr.tab HV.out HT.out hid.out)
        clear hst
        go_wp2
        refine bodyPost_ret (v := .agg #[.int .i64 C, .int .i64 S, .slice (some ⟨(w1.heap.size), 0, none⟩) n n, .slice (some ⟨(w1.heap.size + 1), 0, none⟩) S S]) ?_ rfl ⟨(w1.heap.size), (w1.heap.size + 1), ?_, ?_, ?_⟩
        · have hres : Tryz.f119.results = #[.cell 2 152] := by kernel_rfl
          simp only [results, hres]
          go_simp
        · rw [HT.out]
        · exact (((HTB.out.setCell _ _ (by simp; omega) (by simp; omega)).setCell _ _ (by simp; omega) (by simp; omega)).setCell _ _ (by simp; omega) (by simp; omega)).setCell _ _ (by simp; omega) (by simp; omega)
        · exact ⟨(((hid.out.B.setCell (by simp) _).setCell (by simp) _).setCell (by simp) _).setCell (by simp) _, by omega, by omega⟩
  · go_loopw [6, 28] (fun x i wr => ∃ n : Nat, n ≤ T ∧ i = .int .i64 (n : Nat) ∧ x = .int .i64 ((fpowN S P (genF S P) n : Nat) : Int) ∧ Hid (QAr w wr C S P T n (w1.heap.size) (w1.heap.size + 1 + 1) (w1.heap.size + 1))) (fun _ i _ => T - (intOf i).toNat)
    case atStart =>
      refine ⟨0, Nat.zero_le _, rfl, rfl, ?_⟩
      refine ⟨bwDrew (bwAlloc (bwAlloc (bwAlloc HW.out.2.2.2 _) _) _), by omega, by omega, by omega, by omega, by omega, by omega, ?_, ?_, ?_, ?_, ?_⟩
      · exact (Below.heap_alloc _ _ _ (by simp; omega)).trans ((Below.heap_alloc _ _ _ (by simp; omega)).trans ((Below.heap_alloc _ _ _ (by omega)).trans HW.out.2.1))
      · exact (Below.heap_alloc _ _ _ (by simp; omega)).trans ((Below.heap_alloc _ _ _ (by simp; omega)).trans ((Below.heap_alloc _ _ _ (by omega)).trans HW.out.2.2.1))
      · rw [HE.out]; exact (heap3 w1 _ _ _).1
      · rw [HL.out]; exact (heap3 w1 _ _ _).2.2
      · exact (heap3 w1 _ _ _).2.1
    case round =>
      obtain ⟨n, hn, rfl, rfl, hid⟩ := hrel
      obtain ⟨⟨f0, f1, f2⟩, ⟨a0, a1, a2, a3⟩, hst⟩ := QAr.cells HV.out HT.out hid.out
      by_cases hlt : n < T
      · obtain ⟨⟨u1, s1⟩, s2, ⟨u2, s3⟩, s4⟩ := hst hlt
        have hXl : fpowN S P (genF S P) n < S := powN_lt HV.out n
        have HST := Lib.hid (QAr.store HV.out HT.out hid.out hlt)
        have RM : Hid (mulR C S P (fpowN S P (genF S P) n : Nat) (genF S P : Nat) = (((fpowN S P (genF S P) (n + 1) : Nat) : Int), 0)) := by
          show _ = _
          unfold mulR; rw [ok2_of HV.out hXl hg]; simp; rfl
        generalize fpowN S P (genF S P) n = X at *
        generalize hYe : fpowN S P (genF S P) (n + 1) = Y at *
        have HY := Lib.hid hYe
        clear hYe
        clear hst
        go_wp2
        go_region
        all_goals go_wp2_with (go_at_call 159; refine (Mul_any C S P X (genF S P) _ (by omega) hP).mono ?_; rintro e w2 ⟨rfl, hb2⟩; rw [RM.out])
        all_goals go_roundw
        all_goals try (case measure => simp [intOf]; omega)
        all_goals refine ⟨n + 1, by omega, by go_num, by rw [HY.out], ?_⟩
        all_goals exact QAr.below (QAr.drew HST.out) hb2
      · obtain rfl : n = T := by omega
        obtain ⟨r0, r1, r2, r3, rf⟩ := QAr.res hid.out
        have HTB := Lib.hid (QAr.tab HV.out HT.out hid.out)
        clear hst
        go_wp2
        refine bodyPost_ret (v := .agg #[.int .i64 C, .int .i64 S, .slice (some ⟨(w1.heap.size), 0, none⟩) n n, .slice (some ⟨(w1.heap.size + 1 + 1), 0, none⟩) S S]) ?_ rfl ⟨(w1.heap.size), (w1.heap.size + 1 + 1), ?_, ?_, ?_⟩
        · have hres : Tryz.f119.results = #[.cell 2 152] := by kernel_rfl
          simp only [results, hres]
          go_simp
        · rw [HT.out]
        · exact (((HTB.out.setCell _ _ (by simp; omega) (by simp; omega)).setCell _ _ (by simp; omega) (by simp; omega)).setCell _ _ (by simp; omega) (by simp; omega)).setCell _ _ (by simp; omega) (by simp; omega)
        · exact ⟨(((hid.out.B.setCell (by simp) _).setCell (by simp) _).setCell (by simp) _).setCell (by simp) _, by omega, by omega⟩
  · go_loopw [6, 28] (fun x i wr => ∃ n : Nat, n ≤ T ∧ i = .int .i64 (n : Nat) ∧ x = .int .i64 ((fpowN S P (genF S P) n : Nat) : Int) ∧ Hid (QAr w wr C S P T n (w1.heap.size + 1) (w1.heap.size) (w1.heap.size + 1 + 1))) (fun _ i _ => T - (intOf i).toNat)
    case atStart =>
      refine ⟨0, Nat.zero_le _, rfl, rfl, ?_⟩
      refine ⟨bwDrew (bwAlloc (bwAlloc (bwAlloc HW.out.2.2.2 _) _) _), by omega, by omega, by omega, by omega, by omega, by omega, ?_, ?_, ?_, ?_, ?_⟩
      · exact (Below.heap_alloc _ _ _ (by simp; omega)).trans ((Below.heap_alloc _ _ _ (by simp; omega)).trans ((Below.heap_alloc _ _ _ (by omega)).trans HW.out.2.1))
      · exact (Below.heap_alloc _ _ _ (by simp; omega)).trans ((Below.heap_alloc _ _ _ (by simp; omega)).trans ((Below.heap_alloc _ _ _ (by omega)).trans HW.out.2.2.1))
      · rw [HE.out]; exact (heap3 w1 _ _ _).2.1
      · rw [HL.out]; exact (heap3 w1 _ _ _).1
      · exact (heap3 w1 _ _ _).2.2
    case round =>
      obtain ⟨n, hn, rfl, rfl, hid⟩ := hrel
      obtain ⟨⟨f0, f1, f2⟩, ⟨a0, a1, a2, a3⟩, hst⟩ := QAr.cells HV.out HT.out hid.out
      by_cases hlt : n < T
      · obtain ⟨⟨u1, s1⟩, s2, ⟨u2, s3⟩, s4⟩ := hst hlt
        have hXl : fpowN S P (genF S P) n < S := powN_lt HV.out n
        have HST := Lib.hid (QAr.store HV.out HT.out hid.out hlt)
        have RM : Hid (mulR C S P (fpowN S P (genF S P) n : Nat) (genF S P : Nat) = (((fpowN S P (genF S P) (n + 1) : Nat) : Int), 0)) := by
          show _ = _
          unfold mulR; rw [ok2_of HV.out hXl hg]; simp; rfl
        generalize fpowN S P (genF S P) n = X at *
        generalize hYe : fpowN S P (genF S P) (n + 1) = Y at *
        have HY := Lib.hid hYe
        clear hYe
        clear hst
        go_wp2
        go_region
        all_goals go_wp2_with (go_at_call 159; refine (Mul_any C S P X (genF S P) _ (by omega) hP).mono ?_; rintro e w2 ⟨rfl, hb2⟩; rw [RM.out])
        all_goals go_roundw
        all_goals try (case measure => simp [intOf]; omega)
        all_goals refine ⟨n + 1, by omega, by go_num, by rw [HY.out], ?_⟩
        all_goals exact QAr.below (QAr.drew HST.out) hb2
      · obtain rfl : n = T := by omega
        obtain ⟨r0, r1, r2, r3, rf⟩ := QAr.res hid.out
        have HTB := Lib.hid (QAr.tab HV.out HT.out hid.out)
        clear hst
        go_wp2
        refine bodyPost_ret (v := .agg #[.int .i64 C, .int .i64 S, .slice (some ⟨(w1.heap.size + 1), 0, none⟩) n n, .slice (some ⟨(w1.heap.size), 0, none⟩) S S]) ?_ rfl ⟨(w1.heap.size + 1), (w1.heap.size), ?_, ?_, ?_⟩
        · have hres : Tryz.f119.results = #[.cell 2 152] := by kernel_rfl
          simp only [results, hres]
          go_simp
        · rw [HT.out]
        · exact (((HTB.out.setCell _ _ (by simp; omega) (by simp; omega)).setCell _ _ (by simp; omega) (by simp; omega)).setCell _ _ (by simp; omega) (by simp; omega)).setCell _ _ (by simp; omega) (by simp; omega)
        · exact ⟨(((hid.out.B.setCell (by simp) _).setCell (by simp) _).setCell (by simp) _).setCell (by simp) _, by omega, by omega⟩
  · go_loopw [6, 28] (fun x i wr => ∃ n : Nat, n ≤ T ∧ i = .int .i64 (n : Nat) ∧ x = .int .i64 ((fpowN S P (genF S P) n : Nat) : Int) ∧ Hid (QAr w wr C S P T n (w1.heap.size + 1 + 1) (w1.heap.size) (w1.heap.size + 1))) (fun _ i _ => T - (intOf i).toNat)
    case atStart =>
      refine ⟨0, Nat.zero_le _, rfl, rfl, ?_⟩
      refine ⟨bwDrew (bwAlloc (bwAlloc (bwAlloc HW.out.2.2.2 _) _) _), by omega, by omega, by omega, by omega, by omega, by omega, ?_, ?_, ?_, ?_, ?_⟩
      · exact (Below.heap_alloc _ _ _ (by simp; omega)).trans ((Below.heap_alloc _ _ _ (by simp; omega)).trans ((Below.heap_alloc _ _ _ (by omega)).trans HW.out.2.1))
      · exact (Below.heap_alloc _ _ _ (by simp; omega)).trans ((Below.heap_alloc _ _ _ (by simp; omega)).trans ((Below.heap_alloc _ _ _ (by omega)).trans HW.out.2.2.1))
      · rw [HE.out]; exact (heap3 w1 _ _ _).2.2
      · rw [HL.out]; exact (heap3 w1 _ _ _).1
      · exact (heap3 w1 _ _ _).2.1
    case round =>
      obtain ⟨n, hn, rfl, rfl, hid⟩ := hrel
      obtain ⟨⟨f0, f1, f2⟩, ⟨a0, a1, a2, a3⟩, hst⟩ := QAr.cells HV.out HT.out hid.out
      by_cases hlt : n < T
      · obtain ⟨⟨u1, s1⟩, s2, ⟨u2, s3⟩, s4⟩ := hst hlt
        have hXl : fpowN S P (genF S P) n < S := powN_lt HV.out n
        have HST := Lib.hid (QAr.store HV.out HT.out hid.out hlt)
        have RM : Hid (mulR C S P (fpowN S P (genF S P) n : Nat) (genF S P : Nat) = (((fpowN S P (genF S P) (n + 1) : Nat) : Int), 0)) := by
          show _ = _
          unfold mulR; rw [ok2_of HV.out hXl hg]; simp; rfl
        generalize fpowN S P (genF S P) n = X at *
        generalize hYe : fpowN S P (genF S P) (n + 1) = Y at *
        have HY := Lib.hid hYe
        clear hYe
        clear hst
        go_wp2
        go_region
        all_goals go_wp2_with (go_at_call 159; refine (Mul_any C S P X (genF S P) _ (by omega) hP).mono ?_; rintro e w2 ⟨rfl, hb2⟩; rw [RM.out])
        all_goals go_roundw
        all_goals try (case measure => simp [intOf]; omega)
        all_goals refine ⟨n + 1, by omega, by go_num, by rw [HY.out], ?_⟩
        all_goals exact QAr.below (QAr.drew HST.out) hb2
      · obtain rfl : n = T := by omega
        obtain ⟨r0, r1, r2, r3, rf⟩ := QAr.res hid.out
        have HTB := Lib.hid (QAr.tab HV.out HT.out hid.out)
        clear hst
        go_wp2
        refine bodyPost_ret (v := .agg #[.int .i64 C, .int .i64 S, .slice (some ⟨(w1.heap.size + 1 + 1), 0, none⟩) n n, .slice (some ⟨(w1.heap.size), 0, none⟩) S S]) ?_ rfl ⟨(w1.heap.size + 1 + 1), (w1.heap.size), ?_, ?_, ?_⟩
        · have hres : Tryz.f119.results = #[.cell 2 152] := by kernel_rfl
          simp only [results, hres]
          go_simp
        · rw [HT.out]
        · exact (((HTB.out.setCell _ _ (by simp; omega) (by simp; omega)).setCell _ _ (by simp; omega) (by simp; omega)).setCell _ _ (by simp; omega) (by simp; omega)).setCell _ _ (by simp; omega) (by simp; omega)
        · exact ⟨(((hid.out.B.setCell (by simp) _).setCell (by simp) _).setCell (by simp) _).setCell (by simp) _, by omega, by omega⟩
  · go_loopw [6, 28] (fun x i wr => ∃ n : Nat, n ≤ T ∧ i = .int .i64 (n : Nat) ∧ x = .int .i64 ((fpowN S P (genF S P) n : Nat) : Int) ∧ Hid (QAr w wr C S P T n (w1.heap.size + 1) (w1.heap.size + 1 + 1) (w1.heap.size))) (fun _ i _ => T - (intOf i).toNat)
    case atStart =>
      refine ⟨0, Nat.zero_le _, rfl, rfl, ?_⟩
      refine ⟨bwDrew (bwAlloc (bwAlloc (bwAlloc HW.out.2.2.2 _) _) _), by omega, by omega, by omega, by omega, by omega, by omega, ?_, ?_, ?_, ?_, ?_⟩
      · exact (Below.heap_alloc _ _ _ (by simp; omega)).trans ((Below.heap_alloc _ _ _ (by simp; omega)).trans ((Below.heap_alloc _ _ _ (by omega)).trans HW.out.2.1))
      · exact (Below.heap_alloc _ _ _ (by simp; omega)).trans ((Below.heap_alloc _ _ _ (by simp; omega)).trans ((Below.heap_alloc _ _ _ (by omega)).trans HW.out.2.2.1))
      · rw [HE.out]; exact (heap3 w1 _ _ _).2.1
      · rw [HL.out]; exact (heap3 w1 _ _ _).2.2
      · exact (heap3 w1 _ _ _).1
    case round =>
      obtain ⟨n, hn, rfl, rfl, hid⟩ := hrel
      obtain ⟨⟨f0, f1, f2⟩, ⟨a0, a1, a2, a3⟩, hst⟩ := QAr.cells HV.out HT.out hid.out
      by_cases hlt : n < T
      · obtain ⟨⟨u1, s1⟩, s2, ⟨u2, s3⟩, s4⟩ := hst hlt
        have hXl : fpowN S P (genF S P) n < S := powN_lt HV.out n
        have HST := Lib.hid (QAr.store HV.out HT.out hid.out hlt)
        have RM : Hid (mulR C S P (fpowN S P (genF S P) n : Nat) (genF S P : Nat) = (((fpowN S P (genF S P) (n + 1) : Nat) : Int), 0)) := by
          show _ = _
          unfold mulR; rw [ok2_of HV.out hXl hg]; simp; rfl
        generalize fpowN S P (genF S P) n = X at *
        generalize hYe : fpowN S P (genF S P) (n + 1) = Y at *
        have HY := Lib.hid hYe
        clear hYe
        clear hst
        go_wp2
        go_region
        all_goals go_wp2_with (go_at_call 159; refine (Mul_any C S P X (genF S P) _ (by omega) hP).mono ?_; rintro e w2 ⟨rfl, hb2⟩; rw [RM.out])
        all_goals go_roundw
        all_goals try (case measure => simp [intOf]; omega)
        all_goals refine ⟨n + 1, by omega, by go_num, by rw [HY.out], ?_⟩
        all_goals exact QAr.below (QAr.drew HST.out) hb2
      · obtain rfl : n = T := by omega
        obtain ⟨r0, r1, r2, r3, rf⟩ := QAr.res hid.out
        have HTB := Lib.hid (QAr.tab HV.out HT.out hid.out)
        clear hst
        go_wp2
        refine bodyPost_ret (v := .agg #[.int .i64 C, .int .i64 S, .slice (some ⟨(w1.heap.size + 1), 0, none⟩) n n, .slice (some ⟨(w1.heap.size + 1 + 1), 0, none⟩) S S]) ?_ rfl ⟨(w1.heap.size + 1), (w1.heap.size + 1 + 1), ?_, ?_, ?_⟩
        · have hres : Tryz.f119.results = #[.cell 2 152] := by kernel_rfl
          simp only [results, hres]
          go_simp
        · rw [HT.out]
        · exact (((HTB.out.setCell _ _ (by simp; omega) (by simp; omega)).setCell _ _ (by simp; omega) (by simp; omega)).setCell _ _ (by simp; omega) (by simp; omega)).setCell _ _ (by simp; omega) (by simp; omega)
        · exact ⟨(((hid.out.B.setCell (by simp) _).setCell (by simp) _).setCell (by simp) _).setCell (by simp) _, by omega, by omega⟩
  · go_loopw [6, 28] (fun x i wr => ∃ n : Nat, n ≤ T ∧ i = .int .i64 (n : Nat) ∧ x = .int .i64 ((fpowN S P (genF S P) n : Nat) : Int) ∧ Hid (QAr w wr C S P T n (w1.heap.size + 1 + 1) (w1.heap.size + 1) (w1.heap.size))) (fun _ i _ => T - (intOf i).toNat)
    case atStart =>
      refine ⟨0, Nat.zero_le _, rfl, rfl, ?_⟩
      refine ⟨bwDrew (bwAlloc (bwAlloc (bwAlloc HW.out.2.2.2 _) _) _), by omega, by omega, by omega, by omega, by omega, by omega, ?_, ?_, ?_, ?_, ?_⟩
      · exact (Below.heap_alloc _ _ _ (by simp; omega)).trans ((Below.heap_alloc _ _ _ (by simp; omega)).trans ((Below.heap_alloc _ _ _ (by omega)).trans HW.out.2.1))
      · exact (Below.heap_alloc _ _ _ (by simp; omega)).trans ((Below.heap_alloc _ _ _ (by simp; omega)).trans ((Below.heap_alloc _ _ _ (by omega)).trans HW.out.2.2.1))
      · rw [HE.out]; exact (heap3 w1 _ _ _).2.2
      · rw [HL.out]; exact (heap3 w1 _ _ _).2.1
      · exact (heap3 w1 _ _ _).1
    case round =>
      obtain ⟨n, hn, rfl, rfl, hid⟩ := hrel
      obtain ⟨⟨f0, f1, f2⟩, ⟨a0, a1, a2, a3⟩, hst⟩ := QAr.cells HV.out HT.out hid.out
      by_cases hlt : n < T
      · obtain ⟨⟨u1, s1⟩, s2, ⟨u2, s3⟩, s4⟩ := hst hlt
        have hXl : fpowN S P (genF S P) n < S := powN_lt HV.out n
        have HST := Lib.hid (QAr.store HV.out HT.out hid.out hlt)
        have RM : Hid (mulR C S P (fpowN S P (genF S P) n : Nat) (genF S P : Nat) = (((fpowN S P (genF S P) (n + 1) : Nat) : Int), 0)) := by
          show _ = _
          unfold mulR; rw [ok2_of HV.out hXl hg]; simp; rfl
        generalize fpowN S P (genF S P) n = X at *
        generalize hYe : fpowN S P (genF S P) (n + 1) = Y at *
        have HY := Lib.hid hYe
        clear hYe
        clear hst
        go_wp2
        go_region
        all_goals go_wp2_with (go_at_call 159; refine (Mul_any C S P X (genF S P) _ (by omega) hP).mono ?_; rintro e w2 ⟨rfl, hb2⟩; rw [RM.out])
        all_goals go_roundw
        all_goals try (case measure => simp [intOf]; omega)
        all_goals refine ⟨n + 1, by omega, by go_num, by rw [HY.out], ?_⟩
        all_goals exact QAr.below (QAr.drew HST.out) hb2
      · obtain rfl : n = T := by omega
        obtain ⟨r0, r1, r2, r3, rf⟩ := QAr.res hid.out
        have HTB := Lib.hid (QAr.tab HV.out HT.out hid.out)
        clear hst
        go_wp2
        refine bodyPost_ret (v := .agg #[.int .i64 C, .int .i64 S, .slice (some ⟨(w1.heap.size + 1 + 1), 0, none⟩) n n, .slice (some ⟨(w1.heap.size + 1), 0, none⟩) S S]) ?_ rfl ⟨(w1.heap.size + 1 + 1), (w1.heap.size + 1), ?_, ?_, ?_⟩
        · have hres : Tryz.f119.results = #[.cell 2 152] := by kernel_rfl
          simp only [results, hres]
          go_simp
        · rw [HT.out]
        · exact (((HTB.out.setCell _ _ (by simp; omega) (by simp; omega)).setCell _ _ (by simp; omega) (by simp; omega)).setCell _ _ (by simp; omega) (by simp; omega)).setCell _ _ (by simp; omega) (by simp; omega)
        · exact ⟨(((hid.out.B.setCell (by simp) _).setCell (by simp) _).setCell (by simp) _).setCell (by simp) _, by omega, by omega⟩
end Go.Proofs.YtmnlkganmgcpbaaGreatDoor
namespace Go.Proofs.YtmnlkganmgcpbaaGreatDoor
set_option linter.unusedVariables false
set_option linter.unusedSectionVars false
open Fl
noncomputable def apw (s p j : Nat) : Nat := fpowN s p (genF s p) (j % (s - 1))
def frnN (s p x : Nat) (w : List Nat) : Nat → Nat
  | 0 => 0
  | k + 1 => faddN s p (fmulN s p (frnN s p x w k) x) (w.getD k 0)
noncomputable def synd (s p first : Nat) (w : List Nat) (j : Nat) : Nat := frnN s p (apw s p (first + j)) w w.length
section
variable {c s p : Nat} (h : VF c s p)
include h
theorem apw_lt (j : Nat) : apw s p j < s := powN_lt h _
theorem frn_lt {x : Nat} {w : List Nat} (hw : LtAll s w) (k : Nat) : frnN s p x w k < s := by
  cases k with
  | zero => have := h.two_le; show 0 < s; omega
  | succ k => exact fadd_lt h _ _ (fmul_lt h _ _) (hw k)
theorem synd_lt {first : Nat} {w : List Nat} (hw : LtAll s w) (j : Nat) : synd s p first w j < s := frn_lt h hw _
theorem mkK_eq_zero {a : Nat} (ha : a < s) : mkK h a = 0 ↔ a = 0 := by
  constructor
  · intro e
    rw [← mkK_zero h] at e
    exact mkK_inj h ha (by have := h.two_le; omega) e
  · rintro rfl; exact mkK_zero h
noncomputable def err (w v : List Nat) (i : Nat) : KF h := co h w i - co h v i
end
end Go.Proofs.YtmnlkganmgcpbaaGreatDoor
namespace Go.Proofs.YtmnlkganmgcpbaaGreatDoor
set_option linter.unusedVariables false
set_option linter.unusedSectionVars false
open Fl
theorem list_getD_ext {a b : List Nat} (hl : a.length = b.length) (e : ∀ i, i < a.length → a.getD i 0 = b.getD i 0) : a = b := by
  apply List.ext_getElem hl
  intro i h1 h2
  have := e i h1
  simpa [List.getD, h1, h2] using this
section
variable {c s p : Nat} (h : VF c s p)
include h
end
end Go.Proofs.YtmnlkganmgcpbaaGreatDoor
