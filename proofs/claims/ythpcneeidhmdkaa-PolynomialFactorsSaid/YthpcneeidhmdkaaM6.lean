import Derived.Test.YthpcneeidhmdkaaM5
import Derived.Deep.OwnRows
namespace Go.Proofs.Ythpcneeidhmdkaa
open Go.RowKit
set_option linter.unusedVariables false
/-! newArithmetic: the tables are filled -/
def cellsN (l : List Nat) : Array Value := (l.map fun n : Nat => Value.int .i64 n).toArray
theorem cellsN_get (l : List Nat) (i : Nat) : (cellsN l)[i]? = (l[i]?).map fun n : Nat => Value.int .i64 n := by
  unfold cellsN; simp
theorem cellsN_set (l : List Nat) (i v : Nat) : (cellsN l).setIfInBounds i (.int .i64 v) = cellsN (l.set i v) := by
  unfold cellsN
  apply Array.ext'
  simp [List.map_set]
theorem cellsN_zero (n : Nat) : madeCells #[Value.int .i64 0] n = cellsN (List.replicate n 0) := by
  apply Array.ext'
  rw [toList_madeCells_one]
  unfold cellsN
  simp
abbrev fldO (C S P : Nat) : Obj := .cells #[.int .i64 C, .int .i64 S, .int .i64 P] 23
abbrev arO0 : Obj := .cells #[.int .i64 0, .int .i64 0, .slice none 0 0, .slice none 0 0] 51
abbrev arO (C S T be bl : Nat) : Obj := .cells #[.int .i64 C, .int .i64 S, .slice (some ⟨be, 0, none⟩) T T, .slice (some ⟨bl, 0, none⟩) S S] 51
structure ArR (w wr : World) (C S P T n be bl bs : Nat) : Prop where
  B : Below w.heap.size w wr
  he : w.heap.size + 1 < be
  hl : w.heap.size + 1 < bl
  hs : w.heap.size + 1 < bs
  n1 : be ≠ bl
  n2 : be ≠ bs
  n3 : bl ≠ bs
  F : wr.heap[w.heap.size]? = some (fldO C S P)
  R : wr.heap[w.heap.size + 1]? = some arO0
  E : wr.heap[be]? = some (.cells (cellsN (expTn S P n)) 3)
  L : wr.heap[bl]? = some (.cells (cellsN (logT S P n)) 3)
  A : wr.heap[bs]? = some (arO C S T be bl)
theorem lt_of_heap {w : World} {g : Nat} {o : Obj} (h : w.heap[g]? = some o) : g < w.heap.size := (Array.getElem?_eq_some_iff.1 h).1
theorem ArR.drewN {w wr : World} {C S P T n be bl bs : Nat} (h : ArR w wr C S P T n be bl bs) (k : Nat) : ArR w (wr.drewN k) C S P T n be bl bs :=
  ⟨below_drewN h.B k, h.he, h.hl, h.hs, h.n1, h.n2, h.n3, h.F, h.R, h.E, h.L, h.A⟩
theorem ArR.below {w wr w2 : World} {C S P T n be bl bs : Nat} (h : ArR w wr C S P T n be bl bs) (hb : Below wr.heap.size wr w2) : ArR w w2 C S P T n be bl bs :=
  ⟨bwStep h.B hb, h.he, h.hl, h.hs, h.n1, h.n2, h.n3, (hb.block _ (lt_of_heap h.F)).trans h.F, (hb.block _ (lt_of_heap h.R)).trans h.R, (hb.block _ (lt_of_heap h.E)).trans h.E, (hb.block _ (lt_of_heap h.L)).trans h.L, (hb.block _ (lt_of_heap h.A)).trans h.A⟩
theorem ArR.store {w wr : World} {C S P T n be bl bs : Nat} (hv : VF C S P) (hT : T = S - 1) (h : ArR w wr C S P T n be bl bs) (hn : n < T) :
    ArR w ((wr.setCell ⟨be, n, none⟩ (.int .i64 ((fpowN S P (genF S P) n : Nat) : Int))).setCell ⟨bl, fpowN S P (genF S P) n, none⟩ (.int .i64 (n : Int))) C S P T (n + 1) be bl bs := by
  have hb1 : Below w.heap.size w (wr.setCell ⟨be, n, none⟩ (.int .i64 ((fpowN S P (genF S P) n : Nat) : Int))) := h.B.setCell (by have := h.he; simp; omega) _
  have o1 : ∀ (k : Nat) (v : Value), k ≠ be → (wr.setCell ⟨be, n, none⟩ v).heap[k]? = wr.heap[k]? := fun k v hk => heap_setCell_other wr ⟨be, n, none⟩ k v hk
  have o2 : ∀ (W : World) (x k : Nat) (v : Value), k ≠ bl → (W.setCell ⟨bl, x, none⟩ v).heap[k]? = W.heap[k]? := fun W x k v hk => heap_setCell_other W ⟨bl, x, none⟩ k v hk
  have e1 := heap_setCell_same wr be n _ 3 (.int .i64 ((fpowN S P (genF S P) n : Nat) : Int)) h.E
  rw [cellsN_set, expTn_set hv (n := n) (by omega)] at e1
  have e2 := heap_setCell_same (wr.setCell ⟨be, n, none⟩ (.int .i64 ((fpowN S P (genF S P) n : Nat) : Int))) bl (fpowN S P (genF S P) n) _ 3 (.int .i64 (n : Int)) ((o1 bl _ (Ne.symm h.n1)).trans h.L)
  rw [cellsN_set, logT_set hv (by omega)] at e2
  have a := h.he
  have b := h.hl
  have c := h.hs
  exact ⟨hb1.setCell (by simp; omega) _, h.he, h.hl, h.hs, h.n1, h.n2, h.n3,
    ((o2 _ _ _ _ (by omega)).trans (o1 _ _ (by omega))).trans h.F, ((o2 _ _ _ _ (by omega)).trans (o1 _ _ (by omega))).trans h.R,
    (o2 _ _ _ _ h.n1).trans e1, e2, ((o2 _ _ _ _ (Ne.symm h.n3)).trans (o1 _ _ (Ne.symm h.n2))).trans h.A⟩
/-- behind the loop -/
theorem ArR.tab {w wr : World} {C S P T be bl bs : Nat} (hv : VF C S P) (hT : T = S - 1) (h : ArR w wr C S P T T be bl bs) : TabAt wr S P be bl := by
  subst hT
  refine ⟨lt_of_heap h.E, lt_of_heap h.L, fun i hi => ?_, fun x hx h0 => ?_⟩
  · rw [cell_of_row _ _ _ _ _ _ h.E, cellsN_get]
    have := expT_get hv hi
    rw [← expTn_last hv] at this
    rw [← this]
    unfold expTn
    simp [List.getD, hi]
  · rw [cell_of_row _ _ _ _ _ _ h.L, cellsN_get]
    have := logT_get hv hx h0
    rw [← this]
    unfold logT
    simp [List.getD, hx]
end Go.Proofs.Ythpcneeidhmdkaa
namespace Go.Proofs.Ythpcneeidhmdkaa
open Go.RowKit
set_option linter.unusedVariables false
theorem ArR.cells {w wr : World} {C S P T n be bl bs : Nat} (hv : VF C S P) (hT : T = S - 1) (h : ArR w wr C S P T n be bl bs) :
    (wr.cell? ⟨w.heap.size, 0, none⟩ = some (.int .i64 C) ∧ wr.cell? ⟨w.heap.size, 1, none⟩ = some (.int .i64 S) ∧ wr.cell? ⟨w.heap.size, 2, none⟩ = some (.int .i64 P)) ∧
    (wr.cell? ⟨bs, 0, none⟩ = some (.int .i64 C) ∧ wr.cell? ⟨bs, 1, none⟩ = some (.int .i64 S) ∧ wr.cell? ⟨bs, 2, none⟩ = some (.slice (some ⟨be, 0, none⟩) T T) ∧ wr.cell? ⟨bs, 3, none⟩ = some (.slice (some ⟨bl, 0, none⟩) S S)) ∧
    (n < T → (∃ u, wr.cell? ⟨be, n, none⟩ = some u) ∧ wr.frozen? ⟨be, n, none⟩ = false ∧ (∃ u, wr.cell? ⟨bl, fpowN S P (genF S P) n, none⟩ = some u) ∧ wr.frozen? ⟨bl, fpowN S P (genF S P) n, none⟩ = false) := by
  refine ⟨⟨?_, ?_, ?_⟩, ⟨?_, ?_, ?_, ?_⟩, fun hn => ⟨?_, ?_, ?_, ?_⟩⟩
  · rw [cell_of_row _ _ _ _ _ _ h.F]; rfl
  · rw [cell_of_row _ _ _ _ _ _ h.F]; rfl
  · rw [cell_of_row _ _ _ _ _ _ h.F]; rfl
  · rw [cell_of_row _ _ _ _ _ _ h.A]; rfl
  · rw [cell_of_row _ _ _ _ _ _ h.A]; rfl
  · rw [cell_of_row _ _ _ _ _ _ h.A]; rfl
  · rw [cell_of_row _ _ _ _ _ _ h.A]; rfl
  · rw [cell_of_row _ _ _ _ _ _ h.E, cellsN_get]
    refine ⟨_, Option.map_eq_some_iff.2 ⟨_, List.getElem?_eq_getElem (by unfold expTn; simp; omega), rfl⟩⟩
  · exact frozen_of_row _ _ _ _ _ h.E
  · rw [cell_of_row _ _ _ _ _ _ h.L, cellsN_get]
    refine ⟨_, Option.map_eq_some_iff.2 ⟨_, List.getElem?_eq_getElem (by unfold logT; simp; exact powN_lt hv n), rfl⟩⟩
  · exact frozen_of_row _ _ _ _ _ h.L
theorem TabAt.setCell {W : World} {S P be bl : Nat} (h : TabAt W S P be bl) (p : Addr) (u : Value) (h1 : be ≠ p.block) (h2 : bl ≠ p.block) : TabAt (W.setCell p u) S P be bl := by
  refine ⟨by simpa using h.1, by simpa using h.2.1, fun i hi => ?_, fun x hx h0 => ?_⟩
  · rw [World.cell?_setCell_other W p _ u (fun e => h1 (by rw [e]))]; exact h.2.2.1 i hi
  · rw [World.cell?_setCell_other W p _ u (fun e => h2 (by rw [e]))]; exact h.2.2.2 x hx h0
theorem heap3 (W : World) (a b c : Obj) : (((W.alloc a).alloc b).alloc c).heap[W.heap.size]? = some a ∧ (((W.alloc a).alloc b).alloc c).heap[W.heap.size + 1]? = some b ∧ (((W.alloc a).alloc b).alloc c).heap[W.heap.size + 1 + 1]? = some c := by
  refine ⟨?_, ?_, ?_⟩
  · exact (Below.heap_alloc _ _ _ (by simp; omega)).trans ((Below.heap_alloc _ _ _ (by simp)).trans (heap_alloc_new W a))
  · have h := heap_alloc_new (W.alloc a) b
    refine (Below.heap_alloc _ _ _ (by simp)).trans ?_
    simpa using h
  · have h := heap_alloc_new ((W.alloc a).alloc b) c
    simpa using h
theorem ArR.drew {w wr : World} {C S P T n be bl bs : Nat} (h : ArR w wr C S P T n be bl bs) : ArR w wr.drew C S P T n be bl bs :=
  ⟨bwDrew h.B, h.he, h.hl, h.hs, h.n1, h.n2, h.n3, h.F, h.R, h.E, h.L, h.A⟩
theorem ArR.res {w wr : World} {C S P T n be bl bs : Nat} (h : ArR w wr C S P T n be bl bs) :
    wr.cell? ⟨w.heap.size + 1, 0, none⟩ = some (.int .i64 0) ∧ wr.cell? ⟨w.heap.size + 1, 1, none⟩ = some (.int .i64 0) ∧ wr.cell? ⟨w.heap.size + 1, 2, none⟩ = some (.slice none 0 0) ∧ wr.cell? ⟨w.heap.size + 1, 3, none⟩ = some (.slice none 0 0) ∧ ∀ k, wr.frozen? ⟨w.heap.size + 1, k, none⟩ = false := by
  refine ⟨?_, ?_, ?_, ?_, fun k => frozen_of_row _ _ _ _ _ h.R⟩ <;> (rw [cell_of_row _ _ _ _ _ _ h.R]; rfl)
set_option maxHeartbeats 4000000 in
set_option maxRecDepth 100000 in
theorem newA_any (C S P : Nat) (w : World) (hv : VF C S P) :
    Calls Try.prog 50 #[fldv C S P] w fun e w' => ∃ be bl, e = .returned (arv C S be bl) ∧ TabAt w' S P be bl ∧ Below w.heap.size w w' := by
  have hS := hv.le
  have hS2 := hv.two_le
  have hP : (P : Int) ≤ 9223372036854775807 := hv.pbd
  have hg := gen_lt hv
  have RG : Hid (genR C S P = (((genF S P : Nat) : Int), 0)) := by
    show _ = _
    unfold genR; rw [vld_of hv, if_pos rfl]; simp
  obtain ⟨T, hT⟩ : ∃ T, T = S - 1 := ⟨S - 1, rfl⟩
  have hT1 : 1 ≤ T := by omega
  have hmk1 := run_make_row' (P := Try.prog) 24 3 (.int .i64 0) 8 Try.underlying24 intInfo rfl .i64 .i64 T (by omega) (by omega)
  have hmk2 := run_make_row' (P := Try.prog) 24 3 (.int .i64 0) 8 Try.underlying24 intInfo rfl .i64 .i64 S (by omega) (by omega)
  have hsub : IntKind.i64.wrap ((S : Int) - 1) = (T : Int) := by rw [wr64 _ (by omega) (by omega)]; omega
  have hsub2 : ((S : Int) - 1) = (T : Int) := by omega
  have HV := Lib.hid hv
  have HT := Lib.hid hT
  have HE : Hid (cellsN (expTn S P 0) = madeCells #[Value.int .i64 0] T) := by show _ = _; rw [cellsN_zero, expTn_zero hv, hT]
  have HL : Hid (cellsN (logT S P 0) = madeCells #[Value.int .i64 0] S) := by show _ = _; rw [cellsN_zero, logT_zero hv]
  clear hT hv
  have HI : Hid (∀ w1 : World, Below ((w.alloc (fldO C S P)).alloc arO0).heap.size ((w.alloc (fldO C S P)).alloc arO0) w1 → w.heap.size + 1 < w1.heap.size ∧ w1.heap[w.heap.size]? = some (fldO C S P) ∧ w1.heap[w.heap.size + 1]? = some arO0 ∧ Below w.heap.size w w1) := by
    intro w1 hb1
    have hs := hb1.size
    simp at hs
    refine ⟨by omega, (hb1.block _ (by simp; omega)).trans ?_, (hb1.block _ (by simp)).trans ?_, ((Below.refl _ _).alloc (Nat.le_refl _) _ |>.alloc (by simp) _).trans (hb1.mono (by simp; omega))⟩
    · exact (Below.heap_alloc _ _ _ (by simp)).trans (heap_alloc_new w _)
    · have := heap_alloc_new (w.alloc (fldO C S P)) arO0
      simpa using this
  go_enter Try.func50, Try.ntmps50
  go_wp2_with (go_at_call 82; refine (Generator_any C S P _ (by omega) hP).mono ?_; rintro e w1 ⟨rfl, hb1⟩; rw [RG.out]
               have HW := Lib.hid (HI.out w1 hb1)
               have hlt1 : w.heap.size + 1 < w1.heap.size := HW.out.1
               have hlt0 : w.heap.size < w1.heap.size := by omega
               have hc0 : w1.cell? ⟨w.heap.size, 0, none⟩ = some (.int .i64 C) := (cell_of_row _ _ _ _ _ _ HW.out.2.1).trans rfl
               have hc1 : w1.cell? ⟨w.heap.size, 1, none⟩ = some (.int .i64 S) := (cell_of_row _ _ _ _ _ _ HW.out.2.1).trans rfl
               have hc0a : ∀ o, (w1.alloc o).cell? ⟨w.heap.size, 0, none⟩ = some (.int .i64 C) := fun o => (World.cell?_alloc_lt _ _ _ (by exact hlt0)).trans hc0
               have hc0b : ∀ o o', ((w1.alloc o).alloc o').cell? ⟨w.heap.size, 0, none⟩ = some (.int .i64 C) := fun o o' => (World.cell?_alloc_lt _ _ _ (by simp; omega)).trans (hc0a o)
               have hc0c : ∀ o o' o'', (((w1.alloc o).alloc o').alloc o'').cell? ⟨w.heap.size, 0, none⟩ = some (.int .i64 C) := fun o o' o'' => (World.cell?_alloc_lt _ _ _ (by simp; omega)).trans (hc0b o o')
               have hc1a : ∀ o, (w1.alloc o).cell? ⟨w.heap.size, 1, none⟩ = some (.int .i64 S) := fun o => (World.cell?_alloc_lt _ _ _ (by exact hlt0)).trans hc1
               have hc1b : ∀ o o', ((w1.alloc o).alloc o').cell? ⟨w.heap.size, 1, none⟩ = some (.int .i64 S) := fun o o' => (World.cell?_alloc_lt _ _ _ (by simp; omega)).trans (hc1a o)
               have hc1c : ∀ o o' o'', (((w1.alloc o).alloc o').alloc o'').cell? ⟨w.heap.size, 1, none⟩ = some (.int .i64 S) := fun o o' o'' => (World.cell?_alloc_lt _ _ _ (by simp; omega)).trans (hc1b o o')
               clear hb1)
  go_region
  all_goals clear hc0 hc1 hc0a hc0b hc0c hc1a hc1b hc1c
  all_goals go_wp2
  · go_loopw [6, 28] (fun x i wr => ∃ n : Nat, n ≤ T ∧ i = .int .i64 (n : Nat) ∧ x = .int .i64 ((fpowN S P (genF S P) n : Nat) : Int) ∧ Hid (ArR w wr C S P T n (w1.heap.size) (w1.heap.size + 1) (w1.heap.size + 1 + 1))) (fun _ i _ => T - (intOf i).toNat)
    case atStart =>
      refine ⟨0, Nat.zero_le _, rfl, rfl, ?_⟩
      refine ⟨bwDrew (bwAlloc (bwAlloc (bwAlloc HW.out.2.2.2 _) _) _), by omega, by omega, by omega, by omega, by omega, by omega, ?_, ?_, ?_, ?_, ?_⟩
      · exact (Below.heap_alloc _ _ _ (by simp; omega)).trans ((Below.heap_alloc _ _ _ (by simp; omega)).trans ((Below.heap_alloc _ _ _ (by omega)).trans HW.out.2.1))
      · exact (Below.heap_alloc _ _ _ (by simp; omega)).trans ((Below.heap_alloc _ _ _ (by simp; omega)).trans ((Below.heap_alloc _ _ _ (by omega)).trans HW.out.2.2.1))
      · rw [HE.out]; exact (heap3 w1 _ _ _).1
      · rw [HL.out]; exact (heap3 w1 _ _ _).2.1
      · exact (heap3 w1 _ _ _).2.2
    case round =>
      obtain ⟨n, hn, rfl, rfl, hid⟩ := hrel
      obtain ⟨⟨f0, f1, f2⟩, ⟨a0, a1, a2, a3⟩, hst⟩ := ArR.cells HV.out HT.out hid.out
      by_cases hlt : n < T
      · obtain ⟨⟨u1, s1⟩, s2, ⟨u2, s3⟩, s4⟩ := hst hlt
        have hXl : fpowN S P (genF S P) n < S := powN_lt HV.out n
        have HST := Lib.hid (ArR.store HV.out HT.out hid.out hlt)
        have RM : Hid (mulR C S P (fpowN S P (genF S P) n : Nat) (genF S P : Nat) = (((fpowN S P (genF S P) (n + 1) : Nat) : Int), 0)) := by
          show _ = _
          unfold mulR; rw [ok2_of HV.out hXl hg]; simp; rfl
        generalize fpowN S P (genF S P) n = X at *
        generalize hYe : fpowN S P (genF S P) (n + 1) = Y at *
        have HY := Lib.hid hYe
        clear hYe
        clear hst
        go_wp2
        go_region
        all_goals go_wp2_with (go_at_call 39; refine (Mul_any C S P X (genF S P) _ (by omega) hP).mono ?_; rintro e w2 ⟨rfl, hb2⟩; rw [RM.out])
        all_goals go_roundw
        all_goals try (case measure => simp [intOf]; omega)
        all_goals refine ⟨n + 1, by omega, by go_num, by rw [HY.out], ?_⟩
        all_goals exact ArR.below (ArR.drew HST.out) hb2
      · obtain rfl : n = T := by omega
        obtain ⟨r0, r1, r2, r3, rf⟩ := ArR.res hid.out
        have HTB := Lib.hid (ArR.tab HV.out HT.out hid.out)
        clear hst
        go_wp2
        refine bodyPost_ret (v := .agg #[.int .i64 C, .int .i64 S, .slice (some ⟨(w1.heap.size), 0, none⟩) n n, .slice (some ⟨(w1.heap.size + 1), 0, none⟩) S S]) ?_ rfl ⟨(w1.heap.size), (w1.heap.size + 1), ?_, ?_, ?_⟩
        · have hres : Try.f50.results = #[.cell 2 51] := by kernel_rfl
          simp only [results, hres]
          go_simp
        · rw [HT.out]
        · exact (((HTB.out.setCell _ _ (by simp; omega) (by simp; omega)).setCell _ _ (by simp; omega) (by simp; omega)).setCell _ _ (by simp; omega) (by simp; omega)).setCell _ _ (by simp; omega) (by simp; omega)
        · exact (((hid.out.B.setCell (by simp) _).setCell (by simp) _).setCell (by simp) _).setCell (by simp) _
  · go_loopw [6, 28] (fun x i wr => ∃ n : Nat, n ≤ T ∧ i = .int .i64 (n : Nat) ∧ x = .int .i64 ((fpowN S P (genF S P) n : Nat) : Int) ∧ Hid (ArR w wr C S P T n (w1.heap.size) (w1.heap.size + 1 + 1) (w1.heap.size + 1))) (fun _ i _ => T - (intOf i).toNat)
    case atStart =>
      refine ⟨0, Nat.zero_le _, rfl, rfl, ?_⟩
      refine ⟨bwDrew (bwAlloc (bwAlloc (bwAlloc HW.out.2.2.2 _) _) _), by omega, by omega, by omega, by omega, by omega, by omega, ?_, ?_, ?_, ?_, ?_⟩
      · exact (Below.heap_alloc _ _ _ (by simp; omega)).trans ((Below.heap_alloc _ _ _ (by simp; omega)).trans ((Below.heap_alloc _ _ _ (by omega)).trans HW.out.2.1))
      · exact (Below.heap_alloc _ _ _ (by simp; omega)).trans ((Below.heap_alloc _ _ _ (by simp; omega)).trans ((Below.heap_alloc _ _ _ (by omega)).trans HW.out.2.2.1))
      · rw [HE.out]; exact (heap3 w1 _ _ _).1
      · rw [HL.out]; exact (heap3 w1 _ _ _).2.2
      · exact (heap3 w1 _ _ _).2.1
    case round =>
      obtain ⟨n, hn, rfl, rfl, hid⟩ := hrel
      obtain ⟨⟨f0, f1, f2⟩, ⟨a0, a1, a2, a3⟩, hst⟩ := ArR.cells HV.out HT.out hid.out
      by_cases hlt : n < T
      · obtain ⟨⟨u1, s1⟩, s2, ⟨u2, s3⟩, s4⟩ := hst hlt
        have hXl : fpowN S P (genF S P) n < S := powN_lt HV.out n
        have HST := Lib.hid (ArR.store HV.out HT.out hid.out hlt)
        have RM : Hid (mulR C S P (fpowN S P (genF S P) n : Nat) (genF S P : Nat) = (((fpowN S P (genF S P) (n + 1) : Nat) : Int), 0)) := by
          show _ = _
          unfold mulR; rw [ok2_of HV.out hXl hg]; simp; rfl
        generalize fpowN S P (genF S P) n = X at *
        generalize hYe : fpowN S P (genF S P) (n + 1) = Y at *
        have HY := Lib.hid hYe
        clear hYe
        clear hst
        go_wp2
        go_region
        all_goals go_wp2_with (go_at_call 39; refine (Mul_any C S P X (genF S P) _ (by omega) hP).mono ?_; rintro e w2 ⟨rfl, hb2⟩; rw [RM.out])
        all_goals go_roundw
        all_goals try (case measure => simp [intOf]; omega)
        all_goals refine ⟨n + 1, by omega, by go_num, by rw [HY.out], ?_⟩
        all_goals exact ArR.below (ArR.drew HST.out) hb2
      · obtain rfl : n = T := by omega
        obtain ⟨r0, r1, r2, r3, rf⟩ := ArR.res hid.out
        have HTB := Lib.hid (ArR.tab HV.out HT.out hid.out)
        clear hst
        go_wp2
        refine bodyPost_ret (v := .agg #[.int .i64 C, .int .i64 S, .slice (some ⟨(w1.heap.size), 0, none⟩) n n, .slice (some ⟨(w1.heap.size + 1 + 1), 0, none⟩) S S]) ?_ rfl ⟨(w1.heap.size), (w1.heap.size + 1 + 1), ?_, ?_, ?_⟩
        · have hres : Try.f50.results = #[.cell 2 51] := by kernel_rfl
          simp only [results, hres]
          go_simp
        · rw [HT.out]
        · exact (((HTB.out.setCell _ _ (by simp; omega) (by simp; omega)).setCell _ _ (by simp; omega) (by simp; omega)).setCell _ _ (by simp; omega) (by simp; omega)).setCell _ _ (by simp; omega) (by simp; omega)
        · exact (((hid.out.B.setCell (by simp) _).setCell (by simp) _).setCell (by simp) _).setCell (by simp) _
  · go_loopw [6, 28] (fun x i wr => ∃ n : Nat, n ≤ T ∧ i = .int .i64 (n : Nat) ∧ x = .int .i64 ((fpowN S P (genF S P) n : Nat) : Int) ∧ Hid (ArR w wr C S P T n (w1.heap.size + 1) (w1.heap.size) (w1.heap.size + 1 + 1))) (fun _ i _ => T - (intOf i).toNat)
    case atStart =>
      refine ⟨0, Nat.zero_le _, rfl, rfl, ?_⟩
      refine ⟨bwDrew (bwAlloc (bwAlloc (bwAlloc HW.out.2.2.2 _) _) _), by omega, by omega, by omega, by omega, by omega, by omega, ?_, ?_, ?_, ?_, ?_⟩
      · exact (Below.heap_alloc _ _ _ (by simp; omega)).trans ((Below.heap_alloc _ _ _ (by simp; omega)).trans ((Below.heap_alloc _ _ _ (by omega)).trans HW.out.2.1))
      · exact (Below.heap_alloc _ _ _ (by simp; omega)).trans ((Below.heap_alloc _ _ _ (by simp; omega)).trans ((Below.heap_alloc _ _ _ (by omega)).trans HW.out.2.2.1))
      · rw [HE.out]; exact (heap3 w1 _ _ _).2.1
      · rw [HL.out]; exact (heap3 w1 _ _ _).1
      · exact (heap3 w1 _ _ _).2.2
    case round =>
      obtain ⟨n, hn, rfl, rfl, hid⟩ := hrel
      obtain ⟨⟨f0, f1, f2⟩, ⟨a0, a1, a2, a3⟩, hst⟩ := ArR.cells HV.out HT.out hid.out
      by_cases hlt : n < T
      · obtain ⟨⟨u1, s1⟩, s2, ⟨u2, s3⟩, s4⟩ := hst hlt
        have hXl : fpowN S P (genF S P) n < S := powN_lt HV.out n
        have HST := Lib.hid (ArR.store HV.out HT.out hid.out hlt)
        have RM : Hid (mulR C S P (fpowN S P (genF S P) n : Nat) (genF S P : Nat) = (((fpowN S P (genF S P) (n + 1) : Nat) : Int), 0)) := by
          show _ = _
          unfold mulR; rw [ok2_of HV.out hXl hg]; simp; rfl
        generalize fpowN S P (genF S P) n = X at *
        generalize hYe : fpowN S P (genF S P) (n + 1) = Y at *
        have HY := Lib.hid hYe
        clear hYe
        clear hst
        go_wp2
        go_region
        all_goals go_wp2_with (go_at_call 39; refine (Mul_any C S P X (genF S P) _ (by omega) hP).mono ?_; rintro e w2 ⟨rfl, hb2⟩; rw [RM.out])
        all_goals go_roundw
        all_goals try (case measure => simp [intOf]; omega)
        all_goals refine ⟨n + 1, by omega, by go_num, by rw [HY.out], ?_⟩
        all_goals exact ArR.below (ArR.drew HST.out) hb2
      · obtain rfl : n = T := by omega
        obtain ⟨r0, r1, r2, r3, rf⟩ := ArR.res hid.out
        have HTB := Lib.hid (ArR.tab HV.out HT.out hid.out)
        clear hst
        go_wp2
        refine bodyPost_ret (v := .agg #[.int .i64 C, .int .i64 S, .slice (some ⟨(w1.heap.size + 1), 0, none⟩) n n, .slice (some ⟨(w1.heap.size), 0, none⟩) S S]) ?_ rfl ⟨(w1.heap.size + 1), (w1.heap.size), ?_, ?_, ?_⟩
        · have hres : Try.f50.results = #[.cell 2 51] := by kernel_rfl
          simp only [results, hres]
          go_simp
        · rw [HT.out]
        · exact (((HTB.out.setCell _ _ (by simp; omega) (by simp; omega)).setCell _ _ (by simp; omega) (by simp; omega)).setCell _ _ (by simp; omega) (by simp; omega)).setCell _ _ (by simp; omega) (by simp; omega)
        · exact (((hid.out.B.setCell (by simp) _).setCell (by simp) _).setCell (by simp) _).setCell (by simp) _
  · go_loopw [6, 28] (fun x i wr => ∃ n : Nat, n ≤ T ∧ i = .int .i64 (n : Nat) ∧ x = .int .i64 ((fpowN S P (genF S P) n : Nat) : Int) ∧ Hid (ArR w wr C S P T n (w1.heap.size + 1 + 1) (w1.heap.size) (w1.heap.size + 1))) (fun _ i _ => T - (intOf i).toNat)
    case atStart =>
      refine ⟨0, Nat.zero_le _, rfl, rfl, ?_⟩
      refine ⟨bwDrew (bwAlloc (bwAlloc (bwAlloc HW.out.2.2.2 _) _) _), by omega, by omega, by omega, by omega, by omega, by omega, ?_, ?_, ?_, ?_, ?_⟩
      · exact (Below.heap_alloc _ _ _ (by simp; omega)).trans ((Below.heap_alloc _ _ _ (by simp; omega)).trans ((Below.heap_alloc _ _ _ (by omega)).trans HW.out.2.1))
      · exact (Below.heap_alloc _ _ _ (by simp; omega)).trans ((Below.heap_alloc _ _ _ (by simp; omega)).trans ((Below.heap_alloc _ _ _ (by omega)).trans HW.out.2.2.1))
      · rw [HE.out]; exact (heap3 w1 _ _ _).2.2
      · rw [HL.out]; exact (heap3 w1 _ _ _).1
      · exact (heap3 w1 _ _ _).2.1
    case round =>
      obtain ⟨n, hn, rfl, rfl, hid⟩ := hrel
      obtain ⟨⟨f0, f1, f2⟩, ⟨a0, a1, a2, a3⟩, hst⟩ := ArR.cells HV.out HT.out hid.out
      by_cases hlt : n < T
      · obtain ⟨⟨u1, s1⟩, s2, ⟨u2, s3⟩, s4⟩ := hst hlt
        have hXl : fpowN S P (genF S P) n < S := powN_lt HV.out n
        have HST := Lib.hid (ArR.store HV.out HT.out hid.out hlt)
        have RM : Hid (mulR C S P (fpowN S P (genF S P) n : Nat) (genF S P : Nat) = (((fpowN S P (genF S P) (n + 1) : Nat) : Int), 0)) := by
          show _ = _
          unfold mulR; rw [ok2_of HV.out hXl hg]; simp; rfl
        generalize fpowN S P (genF S P) n = X at *
        generalize hYe : fpowN S P (genF S P) (n + 1) = Y at *
        have HY := Lib.hid hYe
        clear hYe
        clear hst
        go_wp2
        go_region
        all_goals go_wp2_with (go_at_call 39; refine (Mul_any C S P X (genF S P) _ (by omega) hP).mono ?_; rintro e w2 ⟨rfl, hb2⟩; rw [RM.out])
        all_goals go_roundw
        all_goals try (case measure => simp [intOf]; omega)
        all_goals refine ⟨n + 1, by omega, by go_num, by rw [HY.out], ?_⟩
        all_goals exact ArR.below (ArR.drew HST.out) hb2
      · obtain rfl : n = T := by omega
        obtain ⟨r0, r1, r2, r3, rf⟩ := ArR.res hid.out
        have HTB := Lib.hid (ArR.tab HV.out HT.out hid.out)
        clear hst
        go_wp2
        refine bodyPost_ret (v := .agg #[.int .i64 C, .int .i64 S, .slice (some ⟨(w1.heap.size + 1 + 1), 0, none⟩) n n, .slice (some ⟨(w1.heap.size), 0, none⟩) S S]) ?_ rfl ⟨(w1.heap.size + 1 + 1), (w1.heap.size), ?_, ?_, ?_⟩
        · have hres : Try.f50.results = #[.cell 2 51] := by kernel_rfl
          simp only [results, hres]
          go_simp
        · rw [HT.out]
        · exact (((HTB.out.setCell _ _ (by simp; omega) (by simp; omega)).setCell _ _ (by simp; omega) (by simp; omega)).setCell _ _ (by simp; omega) (by simp; omega)).setCell _ _ (by simp; omega) (by simp; omega)
        · exact (((hid.out.B.setCell (by simp) _).setCell (by simp) _).setCell (by simp) _).setCell (by simp) _
  · go_loopw [6, 28] (fun x i wr => ∃ n : Nat, n ≤ T ∧ i = .int .i64 (n : Nat) ∧ x = .int .i64 ((fpowN S P (genF S P) n : Nat) : Int) ∧ Hid (ArR w wr C S P T n (w1.heap.size + 1) (w1.heap.size + 1 + 1) (w1.heap.size))) (fun _ i _ => T - (intOf i).toNat)
    case atStart =>
      refine ⟨0, Nat.zero_le _, rfl, rfl, ?_⟩
      refine ⟨bwDrew (bwAlloc (bwAlloc (bwAlloc HW.out.2.2.2 _) _) _), by omega, by omega, by omega, by omega, by omega, by omega, ?_, ?_, ?_, ?_, ?_⟩
      · exact (Below.heap_alloc _ _ _ (by simp; omega)).trans ((Below.heap_alloc _ _ _ (by simp; omega)).trans ((Below.heap_alloc _ _ _ (by omega)).trans HW.out.2.1))
      · exact (Below.heap_alloc _ _ _ (by simp; omega)).trans ((Below.heap_alloc _ _ _ (by simp; omega)).trans ((Below.heap_alloc _ _ _ (by omega)).trans HW.out.2.2.1))
      · rw [HE.out]; exact (heap3 w1 _ _ _).2.1
      · rw [HL.out]; exact (heap3 w1 _ _ _).2.2
      · exact (heap3 w1 _ _ _).1
    case round =>
      obtain ⟨n, hn, rfl, rfl, hid⟩ := hrel
      obtain ⟨⟨f0, f1, f2⟩, ⟨a0, a1, a2, a3⟩, hst⟩ := ArR.cells HV.out HT.out hid.out
      by_cases hlt : n < T
      · obtain ⟨⟨u1, s1⟩, s2, ⟨u2, s3⟩, s4⟩ := hst hlt
        have hXl : fpowN S P (genF S P) n < S := powN_lt HV.out n
        have HST := Lib.hid (ArR.store HV.out HT.out hid.out hlt)
        have RM : Hid (mulR C S P (fpowN S P (genF S P) n : Nat) (genF S P : Nat) = (((fpowN S P (genF S P) (n + 1) : Nat) : Int), 0)) := by
          show _ = _
          unfold mulR; rw [ok2_of HV.out hXl hg]; simp; rfl
        generalize fpowN S P (genF S P) n = X at *
        generalize hYe : fpowN S P (genF S P) (n + 1) = Y at *
        have HY := Lib.hid hYe
        clear hYe
        clear hst
        go_wp2
        go_region
        all_goals go_wp2_with (go_at_call 39; refine (Mul_any C S P X (genF S P) _ (by omega) hP).mono ?_; rintro e w2 ⟨rfl, hb2⟩; rw [RM.out])
        all_goals go_roundw
        all_goals try (case measure => simp [intOf]; omega)
        all_goals refine ⟨n + 1, by omega, by go_num, by rw [HY.out], ?_⟩
        all_goals exact ArR.below (ArR.drew HST.out) hb2
      · obtain rfl : n = T := by omega
        obtain ⟨r0, r1, r2, r3, rf⟩ := ArR.res hid.out
        have HTB := Lib.hid (ArR.tab HV.out HT.out hid.out)
        clear hst
        go_wp2
        refine bodyPost_ret (v := .agg #[.int .i64 C, .int .i64 S, .slice (some ⟨(w1.heap.size + 1), 0, none⟩) n n, .slice (some ⟨(w1.heap.size + 1 + 1), 0, none⟩) S S]) ?_ rfl ⟨(w1.heap.size + 1), (w1.heap.size + 1 + 1), ?_, ?_, ?_⟩
        · have hres : Try.f50.results = #[.cell 2 51] := by kernel_rfl
          simp only [results, hres]
          go_simp
        · rw [HT.out]
        · exact (((HTB.out.setCell _ _ (by simp; omega) (by simp; omega)).setCell _ _ (by simp; omega) (by simp; omega)).setCell _ _ (by simp; omega) (by simp; omega)).setCell _ _ (by simp; omega) (by simp; omega)
        · exact (((hid.out.B.setCell (by simp) _).setCell (by simp) _).setCell (by simp) _).setCell (by simp) _
  · go_loopw [6, 28] (fun x i wr => ∃ n : Nat, n ≤ T ∧ i = .int .i64 (n : Nat) ∧ x = .int .i64 ((fpowN S P (genF S P) n : Nat) : Int) ∧ Hid (ArR w wr C S P T n (w1.heap.size + 1 + 1) (w1.heap.size + 1) (w1.heap.size))) (fun _ i _ => T - (intOf i).toNat)
    case atStart =>
      refine ⟨0, Nat.zero_le _, rfl, rfl, ?_⟩
      refine ⟨bwDrew (bwAlloc (bwAlloc (bwAlloc HW.out.2.2.2 _) _) _), by omega, by omega, by omega, by omega, by omega, by omega, ?_, ?_, ?_, ?_, ?_⟩
      · exact (Below.heap_alloc _ _ _ (by simp; omega)).trans ((Below.heap_alloc _ _ _ (by simp; omega)).trans ((Below.heap_alloc _ _ _ (by omega)).trans HW.out.2.1))
      · exact (Below.heap_alloc _ _ _ (by simp; omega)).trans ((Below.heap_alloc _ _ _ (by simp; omega)).trans ((Below.heap_alloc _ _ _ (by omega)).trans HW.out.2.2.1))
      · rw [HE.out]; exact (heap3 w1 _ _ _).2.2
      · rw [HL.out]; exact (heap3 w1 _ _ _).2.1
      · exact (heap3 w1 _ _ _).1
    case round =>
      obtain ⟨n, hn, rfl, rfl, hid⟩ := hrel
      obtain ⟨⟨f0, f1, f2⟩, ⟨a0, a1, a2, a3⟩, hst⟩ := ArR.cells HV.out HT.out hid.out
      by_cases hlt : n < T
      · obtain ⟨⟨u1, s1⟩, s2, ⟨u2, s3⟩, s4⟩ := hst hlt
        have hXl : fpowN S P (genF S P) n < S := powN_lt HV.out n
        have HST := Lib.hid (ArR.store HV.out HT.out hid.out hlt)
        have RM : Hid (mulR C S P (fpowN S P (genF S P) n : Nat) (genF S P : Nat) = (((fpowN S P (genF S P) (n + 1) : Nat) : Int), 0)) := by
          show _ = _
          unfold mulR; rw [ok2_of HV.out hXl hg]; simp; rfl
        generalize fpowN S P (genF S P) n = X at *
        generalize hYe : fpowN S P (genF S P) (n + 1) = Y at *
        have HY := Lib.hid hYe
        clear hYe
        clear hst
        go_wp2
        go_region
        all_goals go_wp2_with (go_at_call 39; refine (Mul_any C S P X (genF S P) _ (by omega) hP).mono ?_; rintro e w2 ⟨rfl, hb2⟩; rw [RM.out])
        all_goals go_roundw
        all_goals try (case measure => simp [intOf]; omega)
        all_goals refine ⟨n + 1, by omega, by go_num, by rw [HY.out], ?_⟩
        all_goals exact ArR.below (ArR.drew HST.out) hb2
      · obtain rfl : n = T := by omega
        obtain ⟨r0, r1, r2, r3, rf⟩ := ArR.res hid.out
        have HTB := Lib.hid (ArR.tab HV.out HT.out hid.out)
        clear hst
        go_wp2
        refine bodyPost_ret (v := .agg #[.int .i64 C, .int .i64 S, .slice (some ⟨(w1.heap.size + 1 + 1), 0, none⟩) n n, .slice (some ⟨(w1.heap.size + 1), 0, none⟩) S S]) ?_ rfl ⟨(w1.heap.size + 1 + 1), (w1.heap.size + 1), ?_, ?_, ?_⟩
        · have hres : Try.f50.results = #[.cell 2 51] := by kernel_rfl
          simp only [results, hres]
          go_simp
        · rw [HT.out]
        · exact (((HTB.out.setCell _ _ (by simp; omega) (by simp; omega)).setCell _ _ (by simp; omega) (by simp; omega)).setCell _ _ (by simp; omega) (by simp; omega)).setCell _ _ (by simp; omega) (by simp; omega)
        · exact (((hid.out.B.setCell (by simp) _).setCell (by simp) _).setCell (by simp) _).setCell (by simp) _
end Go.Proofs.Ythpcneeidhmdkaa
