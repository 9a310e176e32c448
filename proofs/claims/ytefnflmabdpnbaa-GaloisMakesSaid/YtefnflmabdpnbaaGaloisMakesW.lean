import Derived.Test.YtefnflmabdpnbaaCalc
import Derived.Deep.RegionHeld3
namespace Go.Proofs.Ytefnflmabdpnbaa.galoisMakes
open Go.RowKit
set_option linter.unusedVariables false
abbrev I64 (a : Int) : Prop := -9223372036854775808 ≤ a ∧ a ≤ 9223372036854775807
theorem binV_form (d p : Int) : ∃ x1 x2 x3 x4 : Int, binV d p = ftup x1 x2 x3 x4 := by
  unfold binV
  split
  · exact ⟨_, _, _, _, rfl⟩
  · split <;> exact ⟨_, _, _, _, rfl⟩
theorem primeV_form (p : Int) : ∃ x1 x2 x3 x4 : Int, primeV p = ftup x1 x2 x3 x4 := by
  unfold primeV
  split
  · exact ⟨_, _, _, _, rfl⟩
  · split
    · split <;> exact ⟨_, _, _, _, rfl⟩
    · exact ⟨_, _, _, _, rfl⟩
set_option maxRecDepth 100000 in
set_option maxHeartbeats 4000000 in
theorem law_walk (c s p d q : Int) (bs : I64 s) (bp : I64 p) (bd : I64 d) (bq : I64 q) (w : World) :
    Calls Try.prog 3 #[.agg #[.int .i64 c, .int .i64 s, .int .i64 p], .int .i64 d, .int .i64 q] w fun e w' => e = .returned (.bool true) ∧ Below w.heap.size w w' := by
  obtain ⟨x1, x2, x3, x4, hx⟩ := binV_form d q
  obtain ⟨y1, y2, y3, y4, hy⟩ := primeV_form d
  have HX := Lib.hid hx; clear hx
  have HY := Lib.hid hy; clear hy
  generalize hvv : vldB c s p = vv
  have HVV := Lib.hid hvv; clear hvv
  go_enter Try.func3, Try.ntmps3
  go_wp2_with fail
  refine (Binary_any d q _ (by omega)).mono ?_
  rintro e w1 ⟨rfl, hb1⟩
  rw [HX.out]
  have Kf1 : Hid (CellsAt w1 (w.heap.size) [.int .i64 c, .int .i64 s, .int .i64 p]) := CellsAt.below (CellsAt.new _ #[.int .i64 c, .int .i64 s, .int .i64 p] 23 _ (by simp)) hb1
  have HB1 : Hid (Below w.heap.size w w1) := bwStep (bwAlloc ((Below.refl _ _)) _) hb1
  clear hb1 
  have yf1 := Kf1.out.1
  have qf1_0 : w1.cell? ⟨w.heap.size, 0, none⟩ = some (.int .i64 c) := Kf1.out.2 0 (by simp)
  have qf1_1 : w1.cell? ⟨w.heap.size, 1, none⟩ = some (.int .i64 s) := Kf1.out.2 1 (by simp)
  have qf1_2 : w1.cell? ⟨w.heap.size, 2, none⟩ = some (.int .i64 p) := Kf1.out.2 2 (by simp)
  go_wp2_with fail
  refine (rBinary_any d q _ (by omega)).mono ?_
  rintro e w2 ⟨rfl, hb2⟩
  rw [HX.out]
  have Kf2 : Hid (CellsAt w2 (w.heap.size) [.int .i64 c, .int .i64 s, .int .i64 p]) := CellsAt.below (CellsAt.alloc (Kf1.out) _) hb2
  have Ka2 : Hid (CellsAt w2 (w1.heap.size) [.int .i64 x1, .int .i64 x2, .int .i64 x3]) := CellsAt.below (CellsAt.new _ #[.int .i64 x1, .int .i64 x2, .int .i64 x3] 23 _ (by simp)) hb2
  have HB2 : Hid (Below w.heap.size w w2) := bwStep (bwAlloc (HB1.out) _) hb2
  clear hb2 yf1 qf1_0 qf1_1 qf1_2
  have yf2 := Kf2.out.1
  have qf2_0 : w2.cell? ⟨w.heap.size, 0, none⟩ = some (.int .i64 c) := Kf2.out.2 0 (by simp)
  have qf2_1 : w2.cell? ⟨w.heap.size, 1, none⟩ = some (.int .i64 s) := Kf2.out.2 1 (by simp)
  have qf2_2 : w2.cell? ⟨w.heap.size, 2, none⟩ = some (.int .i64 p) := Kf2.out.2 2 (by simp)
  have ya2 := Ka2.out.1
  have qa2_0 : w2.cell? ⟨w1.heap.size, 0, none⟩ = some (.int .i64 x1) := Ka2.out.2 0 (by simp)
  have qa2_1 : w2.cell? ⟨w1.heap.size, 1, none⟩ = some (.int .i64 x2) := Ka2.out.2 1 (by simp)
  have qa2_2 : w2.cell? ⟨w1.heap.size, 2, none⟩ = some (.int .i64 x3) := Ka2.out.2 2 (by simp)
  go_wp2_with fail
  refine (Prime_any d _).mono ?_
  rintro e w3 ⟨rfl, hb3⟩
  rw [HY.out]
  have Kf3 : Hid (CellsAt w3 (w.heap.size) [.int .i64 c, .int .i64 s, .int .i64 p]) := CellsAt.below (CellsAt.alloc (Kf2.out) _) hb3
  have Ka3 : Hid (CellsAt w3 (w1.heap.size) [.int .i64 x1, .int .i64 x2, .int .i64 x3]) := CellsAt.below (CellsAt.alloc (Ka2.out) _) hb3
  have Kb3 : Hid (CellsAt w3 (w2.heap.size) [.int .i64 x1, .int .i64 x2, .int .i64 x3]) := CellsAt.below (CellsAt.new _ #[.int .i64 x1, .int .i64 x2, .int .i64 x3] 23 _ (by simp)) hb3
  have HB3 : Hid (Below w.heap.size w w3) := bwStep (bwAlloc (HB2.out) _) hb3
  clear hb3 yf2 qf2_0 qf2_1 qf2_2 ya2 qa2_0 qa2_1 qa2_2
  have yf3 := Kf3.out.1
  have qf3_0 : w3.cell? ⟨w.heap.size, 0, none⟩ = some (.int .i64 c) := Kf3.out.2 0 (by simp)
  have qf3_1 : w3.cell? ⟨w.heap.size, 1, none⟩ = some (.int .i64 s) := Kf3.out.2 1 (by simp)
  have qf3_2 : w3.cell? ⟨w.heap.size, 2, none⟩ = some (.int .i64 p) := Kf3.out.2 2 (by simp)
  have ya3 := Ka3.out.1
  have qa3_0 : w3.cell? ⟨w1.heap.size, 0, none⟩ = some (.int .i64 x1) := Ka3.out.2 0 (by simp)
  have qa3_1 : w3.cell? ⟨w1.heap.size, 1, none⟩ = some (.int .i64 x2) := Ka3.out.2 1 (by simp)
  have qa3_2 : w3.cell? ⟨w1.heap.size, 2, none⟩ = some (.int .i64 x3) := Ka3.out.2 2 (by simp)
  have yb3 := Kb3.out.1
  have qb3_0 : w3.cell? ⟨w2.heap.size, 0, none⟩ = some (.int .i64 x1) := Kb3.out.2 0 (by simp)
  have qb3_1 : w3.cell? ⟨w2.heap.size, 1, none⟩ = some (.int .i64 x2) := Kb3.out.2 1 (by simp)
  have qb3_2 : w3.cell? ⟨w2.heap.size, 2, none⟩ = some (.int .i64 x3) := Kb3.out.2 2 (by simp)
  go_wp2_with fail
  refine (rPrime_any d _).mono ?_
  rintro e w4 ⟨rfl, hb4⟩
  rw [HY.out]
  have Kf4 : Hid (CellsAt w4 (w.heap.size) [.int .i64 c, .int .i64 s, .int .i64 p]) := CellsAt.below (CellsAt.alloc (Kf3.out) _) hb4
  have Ka4 : Hid (CellsAt w4 (w1.heap.size) [.int .i64 x1, .int .i64 x2, .int .i64 x3]) := CellsAt.below (CellsAt.alloc (Ka3.out) _) hb4
  have Kb4 : Hid (CellsAt w4 (w2.heap.size) [.int .i64 x1, .int .i64 x2, .int .i64 x3]) := CellsAt.below (CellsAt.alloc (Kb3.out) _) hb4
  have Kc4 : Hid (CellsAt w4 (w3.heap.size) [.int .i64 y1, .int .i64 y2, .int .i64 y3]) := CellsAt.below (CellsAt.new _ #[.int .i64 y1, .int .i64 y2, .int .i64 y3] 23 _ (by simp)) hb4
  have HB4 : Hid (Below w.heap.size w w4) := bwStep (bwAlloc (HB3.out) _) hb4
  clear hb4 yf3 qf3_0 qf3_1 qf3_2 ya3 qa3_0 qa3_1 qa3_2 yb3 qb3_0 qb3_1 qb3_2
  have yf4 := Kf4.out.1
  have qf4_0 : w4.cell? ⟨w.heap.size, 0, none⟩ = some (.int .i64 c) := Kf4.out.2 0 (by simp)
  have qf4_1 : w4.cell? ⟨w.heap.size, 1, none⟩ = some (.int .i64 s) := Kf4.out.2 1 (by simp)
  have qf4_2 : w4.cell? ⟨w.heap.size, 2, none⟩ = some (.int .i64 p) := Kf4.out.2 2 (by simp)
  have ya4 := Ka4.out.1
  have qa4_0 : w4.cell? ⟨w1.heap.size, 0, none⟩ = some (.int .i64 x1) := Ka4.out.2 0 (by simp)
  have qa4_1 : w4.cell? ⟨w1.heap.size, 1, none⟩ = some (.int .i64 x2) := Ka4.out.2 1 (by simp)
  have qa4_2 : w4.cell? ⟨w1.heap.size, 2, none⟩ = some (.int .i64 x3) := Ka4.out.2 2 (by simp)
  have yb4 := Kb4.out.1
  have qb4_0 : w4.cell? ⟨w2.heap.size, 0, none⟩ = some (.int .i64 x1) := Kb4.out.2 0 (by simp)
  have qb4_1 : w4.cell? ⟨w2.heap.size, 1, none⟩ = some (.int .i64 x2) := Kb4.out.2 1 (by simp)
  have qb4_2 : w4.cell? ⟨w2.heap.size, 2, none⟩ = some (.int .i64 x3) := Kb4.out.2 2 (by simp)
  have yc4 := Kc4.out.1
  have qc4_0 : w4.cell? ⟨w3.heap.size, 0, none⟩ = some (.int .i64 y1) := Kc4.out.2 0 (by simp)
  have qc4_1 : w4.cell? ⟨w3.heap.size, 1, none⟩ = some (.int .i64 y2) := Kc4.out.2 1 (by simp)
  have qc4_2 : w4.cell? ⟨w3.heap.size, 2, none⟩ = some (.int .i64 y3) := Kc4.out.2 2 (by simp)
  go_wp2_with fail
  have mk : ∀ W : World, Keep w [(w.heap.size, [.int .i64 c, .int .i64 s, .int .i64 p]), (w1.heap.size, [.int .i64 x1, .int .i64 x2, .int .i64 x3]), (w2.heap.size, [.int .i64 x1, .int .i64 x2, .int .i64 x3]), (w3.heap.size, [.int .i64 y1, .int .i64 y2, .int .i64 y3]), (w4.heap.size, [.int .i64 y1, .int .i64 y2, .int .i64 y3])] [] W → (W.cell? ⟨w.heap.size, 0, none⟩ = some (.int .i64 c) ∧ W.cell? ⟨w.heap.size, 1, none⟩ = some (.int .i64 s) ∧ W.cell? ⟨w.heap.size, 2, none⟩ = some (.int .i64 p) ∧ W.cell? ⟨w1.heap.size, 0, none⟩ = some (.int .i64 x1) ∧ W.cell? ⟨w1.heap.size, 1, none⟩ = some (.int .i64 x2) ∧ W.cell? ⟨w1.heap.size, 2, none⟩ = some (.int .i64 x3) ∧ W.cell? ⟨w2.heap.size, 0, none⟩ = some (.int .i64 x1) ∧ W.cell? ⟨w2.heap.size, 1, none⟩ = some (.int .i64 x2) ∧ W.cell? ⟨w2.heap.size, 2, none⟩ = some (.int .i64 x3) ∧ W.cell? ⟨w3.heap.size, 0, none⟩ = some (.int .i64 y1) ∧ W.cell? ⟨w3.heap.size, 1, none⟩ = some (.int .i64 y2) ∧ W.cell? ⟨w3.heap.size, 2, none⟩ = some (.int .i64 y3) ∧ W.cell? ⟨w4.heap.size, 0, none⟩ = some (.int .i64 y1) ∧ W.cell? ⟨w4.heap.size, 1, none⟩ = some (.int .i64 y2) ∧ W.cell? ⟨w4.heap.size, 2, none⟩ = some (.int .i64 y3)) ∧ Keep w [(w.heap.size, [.int .i64 c, .int .i64 s, .int .i64 p]), (w1.heap.size, [.int .i64 x1, .int .i64 x2, .int .i64 x3]), (w2.heap.size, [.int .i64 x1, .int .i64 x2, .int .i64 x3]), (w3.heap.size, [.int .i64 y1, .int .i64 y2, .int .i64 y3]), (w4.heap.size, [.int .i64 y1, .int .i64 y2, .int .i64 y3])] [] W := fun W h => ⟨⟨(h.1 _ List.mem_cons_self : CellsAt W (w.heap.size) [.int .i64 c, .int .i64 s, .int .i64 p]).2 0 (by simp), (h.1 _ List.mem_cons_self : CellsAt W (w.heap.size) [.int .i64 c, .int .i64 s, .int .i64 p]).2 1 (by simp), (h.1 _ List.mem_cons_self : CellsAt W (w.heap.size) [.int .i64 c, .int .i64 s, .int .i64 p]).2 2 (by simp), (h.1 _ (List.mem_cons_of_mem _ List.mem_cons_self) : CellsAt W (w1.heap.size) [.int .i64 x1, .int .i64 x2, .int .i64 x3]).2 0 (by simp), (h.1 _ (List.mem_cons_of_mem _ List.mem_cons_self) : CellsAt W (w1.heap.size) [.int .i64 x1, .int .i64 x2, .int .i64 x3]).2 1 (by simp), (h.1 _ (List.mem_cons_of_mem _ List.mem_cons_self) : CellsAt W (w1.heap.size) [.int .i64 x1, .int .i64 x2, .int .i64 x3]).2 2 (by simp), (h.1 _ (List.mem_cons_of_mem _ (List.mem_cons_of_mem _ List.mem_cons_self)) : CellsAt W (w2.heap.size) [.int .i64 x1, .int .i64 x2, .int .i64 x3]).2 0 (by simp), (h.1 _ (List.mem_cons_of_mem _ (List.mem_cons_of_mem _ List.mem_cons_self)) : CellsAt W (w2.heap.size) [.int .i64 x1, .int .i64 x2, .int .i64 x3]).2 1 (by simp), (h.1 _ (List.mem_cons_of_mem _ (List.mem_cons_of_mem _ List.mem_cons_self)) : CellsAt W (w2.heap.size) [.int .i64 x1, .int .i64 x2, .int .i64 x3]).2 2 (by simp), (h.1 _ (List.mem_cons_of_mem _ (List.mem_cons_of_mem _ (List.mem_cons_of_mem _ List.mem_cons_self))) : CellsAt W (w3.heap.size) [.int .i64 y1, .int .i64 y2, .int .i64 y3]).2 0 (by simp), (h.1 _ (List.mem_cons_of_mem _ (List.mem_cons_of_mem _ (List.mem_cons_of_mem _ List.mem_cons_self))) : CellsAt W (w3.heap.size) [.int .i64 y1, .int .i64 y2, .int .i64 y3]).2 1 (by simp), (h.1 _ (List.mem_cons_of_mem _ (List.mem_cons_of_mem _ (List.mem_cons_of_mem _ List.mem_cons_self))) : CellsAt W (w3.heap.size) [.int .i64 y1, .int .i64 y2, .int .i64 y3]).2 2 (by simp), (h.1 _ (List.mem_cons_of_mem _ (List.mem_cons_of_mem _ (List.mem_cons_of_mem _ (List.mem_cons_of_mem _ List.mem_cons_self)))) : CellsAt W (w4.heap.size) [.int .i64 y1, .int .i64 y2, .int .i64 y3]).2 0 (by simp), (h.1 _ (List.mem_cons_of_mem _ (List.mem_cons_of_mem _ (List.mem_cons_of_mem _ (List.mem_cons_of_mem _ List.mem_cons_self)))) : CellsAt W (w4.heap.size) [.int .i64 y1, .int .i64 y2, .int .i64 y3]).2 1 (by simp), (h.1 _ (List.mem_cons_of_mem _ (List.mem_cons_of_mem _ (List.mem_cons_of_mem _ (List.mem_cons_of_mem _ List.mem_cons_self)))) : CellsAt W (w4.heap.size) [.int .i64 y1, .int .i64 y2, .int .i64 y3]).2 2 (by simp)⟩, h⟩
  go_region_held3 (fun w' => (w'.cell? ⟨w.heap.size, 0, none⟩ = some (.int .i64 c) ∧ w'.cell? ⟨w.heap.size, 1, none⟩ = some (.int .i64 s) ∧ w'.cell? ⟨w.heap.size, 2, none⟩ = some (.int .i64 p) ∧ w'.cell? ⟨w1.heap.size, 0, none⟩ = some (.int .i64 x1) ∧ w'.cell? ⟨w1.heap.size, 1, none⟩ = some (.int .i64 x2) ∧ w'.cell? ⟨w1.heap.size, 2, none⟩ = some (.int .i64 x3) ∧ w'.cell? ⟨w2.heap.size, 0, none⟩ = some (.int .i64 x1) ∧ w'.cell? ⟨w2.heap.size, 1, none⟩ = some (.int .i64 x2) ∧ w'.cell? ⟨w2.heap.size, 2, none⟩ = some (.int .i64 x3) ∧ w'.cell? ⟨w3.heap.size, 0, none⟩ = some (.int .i64 y1) ∧ w'.cell? ⟨w3.heap.size, 1, none⟩ = some (.int .i64 y2) ∧ w'.cell? ⟨w3.heap.size, 2, none⟩ = some (.int .i64 y3) ∧ w'.cell? ⟨w4.heap.size, 0, none⟩ = some (.int .i64 y1) ∧ w'.cell? ⟨w4.heap.size, 1, none⟩ = some (.int .i64 y2) ∧ w'.cell? ⟨w4.heap.size, 2, none⟩ = some (.int .i64 y3)) ∧ Keep w [(w.heap.size, [.int .i64 c, .int .i64 s, .int .i64 p]), (w1.heap.size, [.int .i64 x1, .int .i64 x2, .int .i64 x3]), (w2.heap.size, [.int .i64 x1, .int .i64 x2, .int .i64 x3]), (w3.heap.size, [.int .i64 y1, .int .i64 y2, .int .i64 y3]), (w4.heap.size, [.int .i64 y1, .int .i64 y2, .int .i64 y3])] [] w') (first | exact mk _ (Keep.drew ⟨(cells_cons (CellsAt.alloc (Kf4.out) _) (cells_cons (CellsAt.alloc (Ka4.out) _) (cells_cons (CellsAt.alloc (Kb4.out) _) (cells_cons (CellsAt.alloc (Kc4.out) _) (cells_cons (CellsAt.new _ #[.int .i64 y1, .int .i64 y2, .int .i64 y3] 23 _ (by simp)) (fun x hx => by cases hx)))))), (fun x hx => by cases hx), bwAlloc (HB4.out) _⟩) | exact mk _ (by assumption)) (first | (go_at_call 14; refine (valid_any c s p _ (by omega)).mono ?_; rintro e v1 ⟨rfl, hv1⟩; rw [HVV.out]; have hk1 := Keep.step (And.right (by assumption)) hv1) | (go_at_call 15; refine (rvalid_any c s p _ (by omega) (by omega)).mono ?_; rintro e v1 ⟨rfl, hv1⟩; rw [HVV.out]; have hk1 := Keep.step (And.right (by assumption)) hv1) | (go_at_call 16; refine (alive_any _).mono ?_; rintro e v1 ⟨rfl, hv1⟩; have hk1 := Keep.step (And.right (by assumption)) hv1))
  all_goals go_wp2
  all_goals go_ret
  all_goals exact ⟨rfl, (And.right (by assumption) : Keep w _ _ _).2.2⟩
end Go.Proofs.Ytefnflmabdpnbaa.galoisMakes
