import Derived.Test.YtefnflmabdpnbaaCalc
namespace Go.Proofs.Ytefnflmabdpnbaa.galoisLogarithms
open Go.RowKit
set_option linter.unusedVariables false
abbrev I64 (a : Int) : Prop := -9223372036854775808 ≤ a ∧ a ≤ 9223372036854775807
set_option maxRecDepth 100000 in
set_option maxHeartbeats 4000000 in
theorem no0 (c s p a b n : Int) (w : World) (bc : I64 c) (bs : I64 s) (bp : I64 p) (ba : I64 a) (bb : I64 b) (bn : I64 n) (hx0 : vldB c s p = false) :
    Calls Try.prog 4 #[.agg #[.int .i64 c, .int .i64 s, .int .i64 p, .int .i64 a, .int .i64 b, .int .i64 n]] w fun e w' => e = .returned (.bool true) ∧ Below w.heap.size w w' := by
  have HX0 := Lib.hid hx0; clear hx0
  go_enter Try.func4, Try.ntmps4
  go_wp2_with fail
  refine (rvalid_any c s p _ (by omega) (by omega)).mono ?_
  rintro e w1 ⟨rfl, hb1⟩
  rw [HX0.out]
  have Kx1 : Hid (CellsAt w1 (w.heap.size) [.int .i64 c, .int .i64 s, .int .i64 p, .int .i64 a, .int .i64 b, .int .i64 n]) := CellsAt.below (CellsAt.new _ #[.int .i64 c, .int .i64 s, .int .i64 p, .int .i64 a, .int .i64 b, .int .i64 n] 32 _ (by simp)) hb1
  have HB1 : Hid (Below w.heap.size w w1) := bwStep (bwAlloc ((Below.refl _ _)) _) hb1
  clear hb1 
  have yx1 := Kx1.out.1
  have qx1_0 : w1.cell? ⟨w.heap.size, 0, none⟩ = some (.int .i64 c) := Kx1.out.2 0 (by simp)
  have qx1_1 : w1.cell? ⟨w.heap.size, 1, none⟩ = some (.int .i64 s) := Kx1.out.2 1 (by simp)
  have qx1_2 : w1.cell? ⟨w.heap.size, 2, none⟩ = some (.int .i64 p) := Kx1.out.2 2 (by simp)
  have qx1_3 : w1.cell? ⟨w.heap.size, 3, none⟩ = some (.int .i64 a) := Kx1.out.2 3 (by simp)
  have qx1_4 : w1.cell? ⟨w.heap.size, 4, none⟩ = some (.int .i64 b) := Kx1.out.2 4 (by simp)
  have qx1_5 : w1.cell? ⟨w.heap.size, 5, none⟩ = some (.int .i64 n) := Kx1.out.2 5 (by simp)
  go_wp2_with fail
  refine (alive_any _).mono ?_
  rintro e w2 ⟨rfl, hb2⟩
  have Kx2 : Hid (CellsAt w2 (w.heap.size) [.int .i64 c, .int .i64 s, .int .i64 p, .int .i64 a, .int .i64 b, .int .i64 n]) := CellsAt.below (Kx1.out) hb2
  have HB2 : Hid (Below w.heap.size w w2) := bwStep (HB1.out) hb2
  clear hb2 yx1 qx1_0 qx1_1 qx1_2 qx1_3 qx1_4 qx1_5
  have yx2 := Kx2.out.1
  have qx2_0 : w2.cell? ⟨w.heap.size, 0, none⟩ = some (.int .i64 c) := Kx2.out.2 0 (by simp)
  have qx2_1 : w2.cell? ⟨w.heap.size, 1, none⟩ = some (.int .i64 s) := Kx2.out.2 1 (by simp)
  have qx2_2 : w2.cell? ⟨w.heap.size, 2, none⟩ = some (.int .i64 p) := Kx2.out.2 2 (by simp)
  have qx2_3 : w2.cell? ⟨w.heap.size, 3, none⟩ = some (.int .i64 a) := Kx2.out.2 3 (by simp)
  have qx2_4 : w2.cell? ⟨w.heap.size, 4, none⟩ = some (.int .i64 b) := Kx2.out.2 4 (by simp)
  have qx2_5 : w2.cell? ⟨w.heap.size, 5, none⟩ = some (.int .i64 n) := Kx2.out.2 5 (by simp)
  go_wp2_with fail
  go_ret
  exact ⟨rfl, HB2.out⟩
set_option maxRecDepth 100000 in
set_option maxHeartbeats 4000000 in
theorem no1 (c s p a b n : Int) (w : World) (bc : I64 c) (bs : I64 s) (bp : I64 p) (ba : I64 a) (bb : I64 b) (bn : I64 n) (hx0 : vldB c s p = true) (hx1 : isB s a = false) :
    Calls Try.prog 4 #[.agg #[.int .i64 c, .int .i64 s, .int .i64 p, .int .i64 a, .int .i64 b, .int .i64 n]] w fun e w' => e = .returned (.bool true) ∧ Below w.heap.size w w' := by
  have HX0 := Lib.hid hx0; clear hx0
  have HX1 := Lib.hid hx1; clear hx1
  go_enter Try.func4, Try.ntmps4
  go_wp2_with fail
  refine (rvalid_any c s p _ (by omega) (by omega)).mono ?_
  rintro e w1 ⟨rfl, hb1⟩
  rw [HX0.out]
  have Kx1 : Hid (CellsAt w1 (w.heap.size) [.int .i64 c, .int .i64 s, .int .i64 p, .int .i64 a, .int .i64 b, .int .i64 n]) := CellsAt.below (CellsAt.new _ #[.int .i64 c, .int .i64 s, .int .i64 p, .int .i64 a, .int .i64 b, .int .i64 n] 32 _ (by simp)) hb1
  have HB1 : Hid (Below w.heap.size w w1) := bwStep (bwAlloc ((Below.refl _ _)) _) hb1
  clear hb1 
  have yx1 := Kx1.out.1
  have qx1_0 : w1.cell? ⟨w.heap.size, 0, none⟩ = some (.int .i64 c) := Kx1.out.2 0 (by simp)
  have qx1_1 : w1.cell? ⟨w.heap.size, 1, none⟩ = some (.int .i64 s) := Kx1.out.2 1 (by simp)
  have qx1_2 : w1.cell? ⟨w.heap.size, 2, none⟩ = some (.int .i64 p) := Kx1.out.2 2 (by simp)
  have qx1_3 : w1.cell? ⟨w.heap.size, 3, none⟩ = some (.int .i64 a) := Kx1.out.2 3 (by simp)
  have qx1_4 : w1.cell? ⟨w.heap.size, 4, none⟩ = some (.int .i64 b) := Kx1.out.2 4 (by simp)
  have qx1_5 : w1.cell? ⟨w.heap.size, 5, none⟩ = some (.int .i64 n) := Kx1.out.2 5 (by simp)
  go_wp2_with fail
  refine (is_any c s p a _).mono ?_
  rintro e w2 ⟨rfl, hb2⟩
  rw [HX1.out]
  have Kx2 : Hid (CellsAt w2 (w.heap.size) [.int .i64 c, .int .i64 s, .int .i64 p, .int .i64 a, .int .i64 b, .int .i64 n]) := CellsAt.below (Kx1.out) hb2
  have HB2 : Hid (Below w.heap.size w w2) := bwStep (HB1.out) hb2
  clear hb2 yx1 qx1_0 qx1_1 qx1_2 qx1_3 qx1_4 qx1_5
  have yx2 := Kx2.out.1
  have qx2_0 : w2.cell? ⟨w.heap.size, 0, none⟩ = some (.int .i64 c) := Kx2.out.2 0 (by simp)
  have qx2_1 : w2.cell? ⟨w.heap.size, 1, none⟩ = some (.int .i64 s) := Kx2.out.2 1 (by simp)
  have qx2_2 : w2.cell? ⟨w.heap.size, 2, none⟩ = some (.int .i64 p) := Kx2.out.2 2 (by simp)
  have qx2_3 : w2.cell? ⟨w.heap.size, 3, none⟩ = some (.int .i64 a) := Kx2.out.2 3 (by simp)
  have qx2_4 : w2.cell? ⟨w.heap.size, 4, none⟩ = some (.int .i64 b) := Kx2.out.2 4 (by simp)
  have qx2_5 : w2.cell? ⟨w.heap.size, 5, none⟩ = some (.int .i64 n) := Kx2.out.2 5 (by simp)
  go_wp2_with fail
  refine (alive_any _).mono ?_
  rintro e w3 ⟨rfl, hb3⟩
  have Kx3 : Hid (CellsAt w3 (w.heap.size) [.int .i64 c, .int .i64 s, .int .i64 p, .int .i64 a, .int .i64 b, .int .i64 n]) := CellsAt.below (Kx2.out) hb3
  have HB3 : Hid (Below w.heap.size w w3) := bwStep (HB2.out) hb3
  clear hb3 yx2 qx2_0 qx2_1 qx2_2 qx2_3 qx2_4 qx2_5
  have yx3 := Kx3.out.1
  have qx3_0 : w3.cell? ⟨w.heap.size, 0, none⟩ = some (.int .i64 c) := Kx3.out.2 0 (by simp)
  have qx3_1 : w3.cell? ⟨w.heap.size, 1, none⟩ = some (.int .i64 s) := Kx3.out.2 1 (by simp)
  have qx3_2 : w3.cell? ⟨w.heap.size, 2, none⟩ = some (.int .i64 p) := Kx3.out.2 2 (by simp)
  have qx3_3 : w3.cell? ⟨w.heap.size, 3, none⟩ = some (.int .i64 a) := Kx3.out.2 3 (by simp)
  have qx3_4 : w3.cell? ⟨w.heap.size, 4, none⟩ = some (.int .i64 b) := Kx3.out.2 4 (by simp)
  have qx3_5 : w3.cell? ⟨w.heap.size, 5, none⟩ = some (.int .i64 n) := Kx3.out.2 5 (by simp)
  go_wp2_with fail
  go_ret
  exact ⟨rfl, HB3.out⟩
set_option maxRecDepth 100000 in
set_option maxHeartbeats 4000000 in
theorem no2 (c s p a b n : Int) (w : World) (bc : I64 c) (bs : I64 s) (bp : I64 p) (ba : I64 a) (bb : I64 b) (bn : I64 n) (hx0 : vldB c s p = true) (hx1 : isB s a = true) (hx2 : isB s b = false) :
    Calls Try.prog 4 #[.agg #[.int .i64 c, .int .i64 s, .int .i64 p, .int .i64 a, .int .i64 b, .int .i64 n]] w fun e w' => e = .returned (.bool true) ∧ Below w.heap.size w w' := by
  have HX0 := Lib.hid hx0; clear hx0
  have HX1 := Lib.hid hx1; clear hx1
  have HX2 := Lib.hid hx2; clear hx2
  go_enter Try.func4, Try.ntmps4
  go_wp2_with fail
  refine (rvalid_any c s p _ (by omega) (by omega)).mono ?_
  rintro e w1 ⟨rfl, hb1⟩
  rw [HX0.out]
  have Kx1 : Hid (CellsAt w1 (w.heap.size) [.int .i64 c, .int .i64 s, .int .i64 p, .int .i64 a, .int .i64 b, .int .i64 n]) := CellsAt.below (CellsAt.new _ #[.int .i64 c, .int .i64 s, .int .i64 p, .int .i64 a, .int .i64 b, .int .i64 n] 32 _ (by simp)) hb1
  have HB1 : Hid (Below w.heap.size w w1) := bwStep (bwAlloc ((Below.refl _ _)) _) hb1
  clear hb1 
  have yx1 := Kx1.out.1
  have qx1_0 : w1.cell? ⟨w.heap.size, 0, none⟩ = some (.int .i64 c) := Kx1.out.2 0 (by simp)
  have qx1_1 : w1.cell? ⟨w.heap.size, 1, none⟩ = some (.int .i64 s) := Kx1.out.2 1 (by simp)
  have qx1_2 : w1.cell? ⟨w.heap.size, 2, none⟩ = some (.int .i64 p) := Kx1.out.2 2 (by simp)
  have qx1_3 : w1.cell? ⟨w.heap.size, 3, none⟩ = some (.int .i64 a) := Kx1.out.2 3 (by simp)
  have qx1_4 : w1.cell? ⟨w.heap.size, 4, none⟩ = some (.int .i64 b) := Kx1.out.2 4 (by simp)
  have qx1_5 : w1.cell? ⟨w.heap.size, 5, none⟩ = some (.int .i64 n) := Kx1.out.2 5 (by simp)
  go_wp2_with fail
  refine (is_any c s p a _).mono ?_
  rintro e w2 ⟨rfl, hb2⟩
  rw [HX1.out]
  have Kx2 : Hid (CellsAt w2 (w.heap.size) [.int .i64 c, .int .i64 s, .int .i64 p, .int .i64 a, .int .i64 b, .int .i64 n]) := CellsAt.below (Kx1.out) hb2
  have HB2 : Hid (Below w.heap.size w w2) := bwStep (HB1.out) hb2
  clear hb2 yx1 qx1_0 qx1_1 qx1_2 qx1_3 qx1_4 qx1_5
  have yx2 := Kx2.out.1
  have qx2_0 : w2.cell? ⟨w.heap.size, 0, none⟩ = some (.int .i64 c) := Kx2.out.2 0 (by simp)
  have qx2_1 : w2.cell? ⟨w.heap.size, 1, none⟩ = some (.int .i64 s) := Kx2.out.2 1 (by simp)
  have qx2_2 : w2.cell? ⟨w.heap.size, 2, none⟩ = some (.int .i64 p) := Kx2.out.2 2 (by simp)
  have qx2_3 : w2.cell? ⟨w.heap.size, 3, none⟩ = some (.int .i64 a) := Kx2.out.2 3 (by simp)
  have qx2_4 : w2.cell? ⟨w.heap.size, 4, none⟩ = some (.int .i64 b) := Kx2.out.2 4 (by simp)
  have qx2_5 : w2.cell? ⟨w.heap.size, 5, none⟩ = some (.int .i64 n) := Kx2.out.2 5 (by simp)
  go_wp2_with fail
  refine (is_any c s p b _).mono ?_
  rintro e w3 ⟨rfl, hb3⟩
  rw [HX2.out]
  have Kx3 : Hid (CellsAt w3 (w.heap.size) [.int .i64 c, .int .i64 s, .int .i64 p, .int .i64 a, .int .i64 b, .int .i64 n]) := CellsAt.below (Kx2.out) hb3
  have HB3 : Hid (Below w.heap.size w w3) := bwStep (HB2.out) hb3
  clear hb3 yx2 qx2_0 qx2_1 qx2_2 qx2_3 qx2_4 qx2_5
  have yx3 := Kx3.out.1
  have qx3_0 : w3.cell? ⟨w.heap.size, 0, none⟩ = some (.int .i64 c) := Kx3.out.2 0 (by simp)
  have qx3_1 : w3.cell? ⟨w.heap.size, 1, none⟩ = some (.int .i64 s) := Kx3.out.2 1 (by simp)
  have qx3_2 : w3.cell? ⟨w.heap.size, 2, none⟩ = some (.int .i64 p) := Kx3.out.2 2 (by simp)
  have qx3_3 : w3.cell? ⟨w.heap.size, 3, none⟩ = some (.int .i64 a) := Kx3.out.2 3 (by simp)
  have qx3_4 : w3.cell? ⟨w.heap.size, 4, none⟩ = some (.int .i64 b) := Kx3.out.2 4 (by simp)
  have qx3_5 : w3.cell? ⟨w.heap.size, 5, none⟩ = some (.int .i64 n) := Kx3.out.2 5 (by simp)
  go_wp2_with fail
  refine (alive_any _).mono ?_
  rintro e w4 ⟨rfl, hb4⟩
  have Kx4 : Hid (CellsAt w4 (w.heap.size) [.int .i64 c, .int .i64 s, .int .i64 p, .int .i64 a, .int .i64 b, .int .i64 n]) := CellsAt.below (Kx3.out) hb4
  have HB4 : Hid (Below w.heap.size w w4) := bwStep (HB3.out) hb4
  clear hb4 yx3 qx3_0 qx3_1 qx3_2 qx3_3 qx3_4 qx3_5
  have yx4 := Kx4.out.1
  have qx4_0 : w4.cell? ⟨w.heap.size, 0, none⟩ = some (.int .i64 c) := Kx4.out.2 0 (by simp)
  have qx4_1 : w4.cell? ⟨w.heap.size, 1, none⟩ = some (.int .i64 s) := Kx4.out.2 1 (by simp)
  have qx4_2 : w4.cell? ⟨w.heap.size, 2, none⟩ = some (.int .i64 p) := Kx4.out.2 2 (by simp)
  have qx4_3 : w4.cell? ⟨w.heap.size, 3, none⟩ = some (.int .i64 a) := Kx4.out.2 3 (by simp)
  have qx4_4 : w4.cell? ⟨w.heap.size, 4, none⟩ = some (.int .i64 b) := Kx4.out.2 4 (by simp)
  have qx4_5 : w4.cell? ⟨w.heap.size, 5, none⟩ = some (.int .i64 n) := Kx4.out.2 5 (by simp)
  go_wp2_with fail
  go_ret
  exact ⟨rfl, HB4.out⟩
set_option maxRecDepth 100000 in
set_option maxHeartbeats 4000000 in
theorem z0 (c s p a b n : Int) (w : World) (bc : I64 c) (bs : I64 s) (bp : I64 p) (ba : I64 a) (bb : I64 b) (bn : I64 n) (hx0 : vldB c s p = true) (hx1 : isB s a = true) (hx2 : isB s b = true) (hz0 : (a == 0) = true) :
    Calls Try.prog 4 #[.agg #[.int .i64 c, .int .i64 s, .int .i64 p, .int .i64 a, .int .i64 b, .int .i64 n]] w fun e w' => e = .returned (.bool true) ∧ Below w.heap.size w w' := by
  have HX0 := Lib.hid hx0; clear hx0
  have HX1 := Lib.hid hx1; clear hx1
  have HX2 := Lib.hid hx2; clear hx2
  go_enter Try.func4, Try.ntmps4
  go_wp2_with fail
  refine (rvalid_any c s p _ (by omega) (by omega)).mono ?_
  rintro e w1 ⟨rfl, hb1⟩
  rw [HX0.out]
  have Kx1 : Hid (CellsAt w1 (w.heap.size) [.int .i64 c, .int .i64 s, .int .i64 p, .int .i64 a, .int .i64 b, .int .i64 n]) := CellsAt.below (CellsAt.new _ #[.int .i64 c, .int .i64 s, .int .i64 p, .int .i64 a, .int .i64 b, .int .i64 n] 32 _ (by simp)) hb1
  have HB1 : Hid (Below w.heap.size w w1) := bwStep (bwAlloc ((Below.refl _ _)) _) hb1
  clear hb1 
  have yx1 := Kx1.out.1
  have qx1_0 : w1.cell? ⟨w.heap.size, 0, none⟩ = some (.int .i64 c) := Kx1.out.2 0 (by simp)
  have qx1_1 : w1.cell? ⟨w.heap.size, 1, none⟩ = some (.int .i64 s) := Kx1.out.2 1 (by simp)
  have qx1_2 : w1.cell? ⟨w.heap.size, 2, none⟩ = some (.int .i64 p) := Kx1.out.2 2 (by simp)
  have qx1_3 : w1.cell? ⟨w.heap.size, 3, none⟩ = some (.int .i64 a) := Kx1.out.2 3 (by simp)
  have qx1_4 : w1.cell? ⟨w.heap.size, 4, none⟩ = some (.int .i64 b) := Kx1.out.2 4 (by simp)
  have qx1_5 : w1.cell? ⟨w.heap.size, 5, none⟩ = some (.int .i64 n) := Kx1.out.2 5 (by simp)
  go_wp2_with fail
  refine (is_any c s p a _).mono ?_
  rintro e w2 ⟨rfl, hb2⟩
  rw [HX1.out]
  have Kx2 : Hid (CellsAt w2 (w.heap.size) [.int .i64 c, .int .i64 s, .int .i64 p, .int .i64 a, .int .i64 b, .int .i64 n]) := CellsAt.below (Kx1.out) hb2
  have HB2 : Hid (Below w.heap.size w w2) := bwStep (HB1.out) hb2
  clear hb2 yx1 qx1_0 qx1_1 qx1_2 qx1_3 qx1_4 qx1_5
  have yx2 := Kx2.out.1
  have qx2_0 : w2.cell? ⟨w.heap.size, 0, none⟩ = some (.int .i64 c) := Kx2.out.2 0 (by simp)
  have qx2_1 : w2.cell? ⟨w.heap.size, 1, none⟩ = some (.int .i64 s) := Kx2.out.2 1 (by simp)
  have qx2_2 : w2.cell? ⟨w.heap.size, 2, none⟩ = some (.int .i64 p) := Kx2.out.2 2 (by simp)
  have qx2_3 : w2.cell? ⟨w.heap.size, 3, none⟩ = some (.int .i64 a) := Kx2.out.2 3 (by simp)
  have qx2_4 : w2.cell? ⟨w.heap.size, 4, none⟩ = some (.int .i64 b) := Kx2.out.2 4 (by simp)
  have qx2_5 : w2.cell? ⟨w.heap.size, 5, none⟩ = some (.int .i64 n) := Kx2.out.2 5 (by simp)
  go_wp2_with fail
  refine (is_any c s p b _).mono ?_
  rintro e w3 ⟨rfl, hb3⟩
  rw [HX2.out]
  have Kx3 : Hid (CellsAt w3 (w.heap.size) [.int .i64 c, .int .i64 s, .int .i64 p, .int .i64 a, .int .i64 b, .int .i64 n]) := CellsAt.below (Kx2.out) hb3
  have HB3 : Hid (Below w.heap.size w w3) := bwStep (HB2.out) hb3
  clear hb3 yx2 qx2_0 qx2_1 qx2_2 qx2_3 qx2_4 qx2_5
  have yx3 := Kx3.out.1
  have qx3_0 : w3.cell? ⟨w.heap.size, 0, none⟩ = some (.int .i64 c) := Kx3.out.2 0 (by simp)
  have qx3_1 : w3.cell? ⟨w.heap.size, 1, none⟩ = some (.int .i64 s) := Kx3.out.2 1 (by simp)
  have qx3_2 : w3.cell? ⟨w.heap.size, 2, none⟩ = some (.int .i64 p) := Kx3.out.2 2 (by simp)
  have qx3_3 : w3.cell? ⟨w.heap.size, 3, none⟩ = some (.int .i64 a) := Kx3.out.2 3 (by simp)
  have qx3_4 : w3.cell? ⟨w.heap.size, 4, none⟩ = some (.int .i64 b) := Kx3.out.2 4 (by simp)
  have qx3_5 : w3.cell? ⟨w.heap.size, 5, none⟩ = some (.int .i64 n) := Kx3.out.2 5 (by simp)
  go_wp2_with fail
  refine (alive_any _).mono ?_
  rintro e w4 ⟨rfl, hb4⟩
  have Kx4 : Hid (CellsAt w4 (w.heap.size) [.int .i64 c, .int .i64 s, .int .i64 p, .int .i64 a, .int .i64 b, .int .i64 n]) := CellsAt.below (Kx3.out) hb4
  have HB4 : Hid (Below w.heap.size w w4) := bwStep (HB3.out) hb4
  clear hb4 yx3 qx3_0 qx3_1 qx3_2 qx3_3 qx3_4 qx3_5
  have yx4 := Kx4.out.1
  have qx4_0 : w4.cell? ⟨w.heap.size, 0, none⟩ = some (.int .i64 c) := Kx4.out.2 0 (by simp)
  have qx4_1 : w4.cell? ⟨w.heap.size, 1, none⟩ = some (.int .i64 s) := Kx4.out.2 1 (by simp)
  have qx4_2 : w4.cell? ⟨w.heap.size, 2, none⟩ = some (.int .i64 p) := Kx4.out.2 2 (by simp)
  have qx4_3 : w4.cell? ⟨w.heap.size, 3, none⟩ = some (.int .i64 a) := Kx4.out.2 3 (by simp)
  have qx4_4 : w4.cell? ⟨w.heap.size, 4, none⟩ = some (.int .i64 b) := Kx4.out.2 4 (by simp)
  have qx4_5 : w4.cell? ⟨w.heap.size, 5, none⟩ = some (.int .i64 n) := Kx4.out.2 5 (by simp)
  go_wp2_with fail
  go_ret
  exact ⟨rfl, HB4.out⟩
set_option maxRecDepth 100000 in
set_option maxHeartbeats 4000000 in
theorem z1 (c s p a b n : Int) (w : World) (bc : I64 c) (bs : I64 s) (bp : I64 p) (ba : I64 a) (bb : I64 b) (bn : I64 n) (hx0 : vldB c s p = true) (hx1 : isB s a = true) (hx2 : isB s b = true) (hz0 : (a == 0) = false) (hz1 : (b == 0) = true) :
    Calls Try.prog 4 #[.agg #[.int .i64 c, .int .i64 s, .int .i64 p, .int .i64 a, .int .i64 b, .int .i64 n]] w fun e w' => e = .returned (.bool true) ∧ Below w.heap.size w w' := by
  have HX0 := Lib.hid hx0; clear hx0
  have HX1 := Lib.hid hx1; clear hx1
  have HX2 := Lib.hid hx2; clear hx2
  go_enter Try.func4, Try.ntmps4
  go_wp2_with fail
  refine (rvalid_any c s p _ (by omega) (by omega)).mono ?_
  rintro e w1 ⟨rfl, hb1⟩
  rw [HX0.out]
  have Kx1 : Hid (CellsAt w1 (w.heap.size) [.int .i64 c, .int .i64 s, .int .i64 p, .int .i64 a, .int .i64 b, .int .i64 n]) := CellsAt.below (CellsAt.new _ #[.int .i64 c, .int .i64 s, .int .i64 p, .int .i64 a, .int .i64 b, .int .i64 n] 32 _ (by simp)) hb1
  have HB1 : Hid (Below w.heap.size w w1) := bwStep (bwAlloc ((Below.refl _ _)) _) hb1
  clear hb1 
  have yx1 := Kx1.out.1
  have qx1_0 : w1.cell? ⟨w.heap.size, 0, none⟩ = some (.int .i64 c) := Kx1.out.2 0 (by simp)
  have qx1_1 : w1.cell? ⟨w.heap.size, 1, none⟩ = some (.int .i64 s) := Kx1.out.2 1 (by simp)
  have qx1_2 : w1.cell? ⟨w.heap.size, 2, none⟩ = some (.int .i64 p) := Kx1.out.2 2 (by simp)
  have qx1_3 : w1.cell? ⟨w.heap.size, 3, none⟩ = some (.int .i64 a) := Kx1.out.2 3 (by simp)
  have qx1_4 : w1.cell? ⟨w.heap.size, 4, none⟩ = some (.int .i64 b) := Kx1.out.2 4 (by simp)
  have qx1_5 : w1.cell? ⟨w.heap.size, 5, none⟩ = some (.int .i64 n) := Kx1.out.2 5 (by simp)
  go_wp2_with fail
  refine (is_any c s p a _).mono ?_
  rintro e w2 ⟨rfl, hb2⟩
  rw [HX1.out]
  have Kx2 : Hid (CellsAt w2 (w.heap.size) [.int .i64 c, .int .i64 s, .int .i64 p, .int .i64 a, .int .i64 b, .int .i64 n]) := CellsAt.below (Kx1.out) hb2
  have HB2 : Hid (Below w.heap.size w w2) := bwStep (HB1.out) hb2
  clear hb2 yx1 qx1_0 qx1_1 qx1_2 qx1_3 qx1_4 qx1_5
  have yx2 := Kx2.out.1
  have qx2_0 : w2.cell? ⟨w.heap.size, 0, none⟩ = some (.int .i64 c) := Kx2.out.2 0 (by simp)
  have qx2_1 : w2.cell? ⟨w.heap.size, 1, none⟩ = some (.int .i64 s) := Kx2.out.2 1 (by simp)
  have qx2_2 : w2.cell? ⟨w.heap.size, 2, none⟩ = some (.int .i64 p) := Kx2.out.2 2 (by simp)
  have qx2_3 : w2.cell? ⟨w.heap.size, 3, none⟩ = some (.int .i64 a) := Kx2.out.2 3 (by simp)
  have qx2_4 : w2.cell? ⟨w.heap.size, 4, none⟩ = some (.int .i64 b) := Kx2.out.2 4 (by simp)
  have qx2_5 : w2.cell? ⟨w.heap.size, 5, none⟩ = some (.int .i64 n) := Kx2.out.2 5 (by simp)
  go_wp2_with fail
  refine (is_any c s p b _).mono ?_
  rintro e w3 ⟨rfl, hb3⟩
  rw [HX2.out]
  have Kx3 : Hid (CellsAt w3 (w.heap.size) [.int .i64 c, .int .i64 s, .int .i64 p, .int .i64 a, .int .i64 b, .int .i64 n]) := CellsAt.below (Kx2.out) hb3
  have HB3 : Hid (Below w.heap.size w w3) := bwStep (HB2.out) hb3
  clear hb3 yx2 qx2_0 qx2_1 qx2_2 qx2_3 qx2_4 qx2_5
  have yx3 := Kx3.out.1
  have qx3_0 : w3.cell? ⟨w.heap.size, 0, none⟩ = some (.int .i64 c) := Kx3.out.2 0 (by simp)
  have qx3_1 : w3.cell? ⟨w.heap.size, 1, none⟩ = some (.int .i64 s) := Kx3.out.2 1 (by simp)
  have qx3_2 : w3.cell? ⟨w.heap.size, 2, none⟩ = some (.int .i64 p) := Kx3.out.2 2 (by simp)
  have qx3_3 : w3.cell? ⟨w.heap.size, 3, none⟩ = some (.int .i64 a) := Kx3.out.2 3 (by simp)
  have qx3_4 : w3.cell? ⟨w.heap.size, 4, none⟩ = some (.int .i64 b) := Kx3.out.2 4 (by simp)
  have qx3_5 : w3.cell? ⟨w.heap.size, 5, none⟩ = some (.int .i64 n) := Kx3.out.2 5 (by simp)
  go_wp2_with fail
  refine (alive_any _).mono ?_
  rintro e w4 ⟨rfl, hb4⟩
  have Kx4 : Hid (CellsAt w4 (w.heap.size) [.int .i64 c, .int .i64 s, .int .i64 p, .int .i64 a, .int .i64 b, .int .i64 n]) := CellsAt.below (Kx3.out) hb4
  have HB4 : Hid (Below w.heap.size w w4) := bwStep (HB3.out) hb4
  clear hb4 yx3 qx3_0 qx3_1 qx3_2 qx3_3 qx3_4 qx3_5
  have yx4 := Kx4.out.1
  have qx4_0 : w4.cell? ⟨w.heap.size, 0, none⟩ = some (.int .i64 c) := Kx4.out.2 0 (by simp)
  have qx4_1 : w4.cell? ⟨w.heap.size, 1, none⟩ = some (.int .i64 s) := Kx4.out.2 1 (by simp)
  have qx4_2 : w4.cell? ⟨w.heap.size, 2, none⟩ = some (.int .i64 p) := Kx4.out.2 2 (by simp)
  have qx4_3 : w4.cell? ⟨w.heap.size, 3, none⟩ = some (.int .i64 a) := Kx4.out.2 3 (by simp)
  have qx4_4 : w4.cell? ⟨w.heap.size, 4, none⟩ = some (.int .i64 b) := Kx4.out.2 4 (by simp)
  have qx4_5 : w4.cell? ⟨w.heap.size, 5, none⟩ = some (.int .i64 n) := Kx4.out.2 5 (by simp)
  go_wp2_with fail
  go_ret
  exact ⟨rfl, HB4.out⟩
set_option maxRecDepth 100000 in
set_option maxHeartbeats 4000000 in
theorem yes (C S P A B : Nat) (n : Int) (w : World) (hv : VF C S P) (ha : A < S) (hb : B < S) (ha0 : 0 < A) (hb0 : 0 < B) :
    Calls Try.prog 4 #[.agg #[.int .i64 C, .int .i64 S, .int .i64 P, .int .i64 A, .int .i64 B, .int .i64 n]] w fun e w' => e = .returned (.bool true) ∧ Below w.heap.size w w' := by
  have hS := hv.le
  have hS2 := hv.two_le
  have hP : (P : Int) ≤ 9223372036854775807 := hv.pbd
  have HX0 : Hid (vldB C S P = true) := vld_of hv
  have HX1 : Hid (isB S (A : Int) = true) := isB_of ha
  have HX2 : Hid (isB S (B : Int) = true) := isB_of hb
  have hz0 : (((A : Nat) : Int) == 0) = false := by rw [beq_eq_false_iff_ne]; omega
  have hz1 : (((B : Nat) : Int) == 0) = false := by rw [beq_eq_false_iff_ne]; omega
  have hla := logF_spec hv ha (by omega)
  have hlb := logF_spec hv hb (by omega)
  have hlm := logF_mul hv ha hb (by omega) (by omega)
  have hm1 := fmul_lt hv A B
  have RA : Hid (logR C S P A = (((logF S P A : Nat) : Int), 0)) := by show _ = _; unfold logR; rw [ok1_of hv ha, if_pos rfl, if_neg (by omega)]; simp
  have RB : Hid (logR C S P B = (((logF S P B : Nat) : Int), 0)) := by show _ = _; unfold logR; rw [ok1_of hv hb, if_pos rfl, if_neg (by omega)]; simp
  have RM : Hid (mulR C S P A B = (((fmulN S P A B : Nat) : Int), 0)) := by show _ = _; unfold mulR; rw [ok2_of hv ha hb]; simp
  have RL : Hid (logR C S P (fmulN S P A B : Nat) = ((((logF S P A + logF S P B) % (S - 1) : Nat) : Int), 0)) := by show _ = _; unfold logR; rw [ok1_of hv hm1, if_pos rfl, if_neg (by have := hlm.2; omega)]; simp only [Int.toNat_natCast]; rw [hlm.1]
  have RE : Hid (expR C S P (logF S P A : Nat) = (((A : Nat) : Int), 0)) := by
    show _ = _; unfold expR; rw [vld_of hv, if_pos rfl]; simp only [Int.toNat_natCast]
    rw [Int.emod_eq_of_lt (by omega) (by have := hla.1; omega), Int.toNat_natCast, hla.2]
  have hl1 := hla.1; have hl2 := hlb.1; clear hla hlb hlm hv
  have HC : Hid (((((logF S P A + logF S P B) % (S - 1) : Nat) : Int)) = ((logF S P A : Int) + (logF S P B : Int)) % ((S : Int) - 1)) := by show _ = _; rw [Int.natCast_emod]; congr 1; omega
  generalize logF S P A = la at *
  generalize logF S P B = lb at *
  generalize fmulN S P A B = m at *
  have hcc : (((((la + lb) % (S - 1) : Nat) : Int)) == ((la : Int) + (lb : Int)) % ((S : Int) - 1)) = true := by rw [beq_iff_eq]; exact HC.out
  generalize (la + lb) % (S - 1) = lc at *
  go_enter Try.func4, Try.ntmps4
  go_wp2_with fail
  refine (rvalid_any C S P _ (by omega) hP).mono ?_
  rintro e w1 ⟨rfl, hb1⟩
  rw [HX0.out]
  have Kx1 : Hid (CellsAt w1 (w.heap.size) [.int .i64 C, .int .i64 S, .int .i64 P, .int .i64 A, .int .i64 B, .int .i64 n]) := CellsAt.below (CellsAt.new _ #[.int .i64 C, .int .i64 S, .int .i64 P, .int .i64 A, .int .i64 B, .int .i64 n] 32 _ (by simp)) hb1
  have HB1 : Hid (Below w.heap.size w w1) := bwStep (bwAlloc ((Below.refl _ _)) _) hb1
  clear hb1 
  have yx1 := Kx1.out.1
  have qx1_0 : w1.cell? ⟨w.heap.size, 0, none⟩ = some (.int .i64 C) := Kx1.out.2 0 (by simp)
  have qx1_1 : w1.cell? ⟨w.heap.size, 1, none⟩ = some (.int .i64 S) := Kx1.out.2 1 (by simp)
  have qx1_2 : w1.cell? ⟨w.heap.size, 2, none⟩ = some (.int .i64 P) := Kx1.out.2 2 (by simp)
  have qx1_3 : w1.cell? ⟨w.heap.size, 3, none⟩ = some (.int .i64 A) := Kx1.out.2 3 (by simp)
  have qx1_4 : w1.cell? ⟨w.heap.size, 4, none⟩ = some (.int .i64 B) := Kx1.out.2 4 (by simp)
  have qx1_5 : w1.cell? ⟨w.heap.size, 5, none⟩ = some (.int .i64 n) := Kx1.out.2 5 (by simp)
  go_wp2_with fail
  refine (is_any C S P A _).mono ?_
  rintro e w2 ⟨rfl, hb2⟩
  rw [HX1.out]
  have Kx2 : Hid (CellsAt w2 (w.heap.size) [.int .i64 C, .int .i64 S, .int .i64 P, .int .i64 A, .int .i64 B, .int .i64 n]) := CellsAt.below (Kx1.out) hb2
  have HB2 : Hid (Below w.heap.size w w2) := bwStep (HB1.out) hb2
  clear hb2 yx1 qx1_0 qx1_1 qx1_2 qx1_3 qx1_4 qx1_5
  have yx2 := Kx2.out.1
  have qx2_0 : w2.cell? ⟨w.heap.size, 0, none⟩ = some (.int .i64 C) := Kx2.out.2 0 (by simp)
  have qx2_1 : w2.cell? ⟨w.heap.size, 1, none⟩ = some (.int .i64 S) := Kx2.out.2 1 (by simp)
  have qx2_2 : w2.cell? ⟨w.heap.size, 2, none⟩ = some (.int .i64 P) := Kx2.out.2 2 (by simp)
  have qx2_3 : w2.cell? ⟨w.heap.size, 3, none⟩ = some (.int .i64 A) := Kx2.out.2 3 (by simp)
  have qx2_4 : w2.cell? ⟨w.heap.size, 4, none⟩ = some (.int .i64 B) := Kx2.out.2 4 (by simp)
  have qx2_5 : w2.cell? ⟨w.heap.size, 5, none⟩ = some (.int .i64 n) := Kx2.out.2 5 (by simp)
  go_wp2_with fail
  refine (is_any C S P B _).mono ?_
  rintro e w3 ⟨rfl, hb3⟩
  rw [HX2.out]
  have Kx3 : Hid (CellsAt w3 (w.heap.size) [.int .i64 C, .int .i64 S, .int .i64 P, .int .i64 A, .int .i64 B, .int .i64 n]) := CellsAt.below (Kx2.out) hb3
  have HB3 : Hid (Below w.heap.size w w3) := bwStep (HB2.out) hb3
  clear hb3 yx2 qx2_0 qx2_1 qx2_2 qx2_3 qx2_4 qx2_5
  have yx3 := Kx3.out.1
  have qx3_0 : w3.cell? ⟨w.heap.size, 0, none⟩ = some (.int .i64 C) := Kx3.out.2 0 (by simp)
  have qx3_1 : w3.cell? ⟨w.heap.size, 1, none⟩ = some (.int .i64 S) := Kx3.out.2 1 (by simp)
  have qx3_2 : w3.cell? ⟨w.heap.size, 2, none⟩ = some (.int .i64 P) := Kx3.out.2 2 (by simp)
  have qx3_3 : w3.cell? ⟨w.heap.size, 3, none⟩ = some (.int .i64 A) := Kx3.out.2 3 (by simp)
  have qx3_4 : w3.cell? ⟨w.heap.size, 4, none⟩ = some (.int .i64 B) := Kx3.out.2 4 (by simp)
  have qx3_5 : w3.cell? ⟨w.heap.size, 5, none⟩ = some (.int .i64 n) := Kx3.out.2 5 (by simp)
  go_wp2_with fail
  refine (Log_any C S P A _ (by omega) hP).mono ?_
  rintro e w4 ⟨rfl, hb4⟩
  rw [RA.out]
  have Kx4 : Hid (CellsAt w4 (w.heap.size) [.int .i64 C, .int .i64 S, .int .i64 P, .int .i64 A, .int .i64 B, .int .i64 n]) := CellsAt.below (Kx3.out) hb4
  have HB4 : Hid (Below w.heap.size w w4) := bwStep (HB3.out) hb4
  clear hb4 yx3 qx3_0 qx3_1 qx3_2 qx3_3 qx3_4 qx3_5
  have yx4 := Kx4.out.1
  have qx4_0 : w4.cell? ⟨w.heap.size, 0, none⟩ = some (.int .i64 C) := Kx4.out.2 0 (by simp)
  have qx4_1 : w4.cell? ⟨w.heap.size, 1, none⟩ = some (.int .i64 S) := Kx4.out.2 1 (by simp)
  have qx4_2 : w4.cell? ⟨w.heap.size, 2, none⟩ = some (.int .i64 P) := Kx4.out.2 2 (by simp)
  have qx4_3 : w4.cell? ⟨w.heap.size, 3, none⟩ = some (.int .i64 A) := Kx4.out.2 3 (by simp)
  have qx4_4 : w4.cell? ⟨w.heap.size, 4, none⟩ = some (.int .i64 B) := Kx4.out.2 4 (by simp)
  have qx4_5 : w4.cell? ⟨w.heap.size, 5, none⟩ = some (.int .i64 n) := Kx4.out.2 5 (by simp)
  go_wp2_with fail
  refine (Log_any C S P B _ (by omega) hP).mono ?_
  rintro e w5 ⟨rfl, hb5⟩
  rw [RB.out]
  have Kx5 : Hid (CellsAt w5 (w.heap.size) [.int .i64 C, .int .i64 S, .int .i64 P, .int .i64 A, .int .i64 B, .int .i64 n]) := CellsAt.below (Kx4.out) hb5
  have HB5 : Hid (Below w.heap.size w w5) := bwStep (HB4.out) hb5
  clear hb5 yx4 qx4_0 qx4_1 qx4_2 qx4_3 qx4_4 qx4_5
  have yx5 := Kx5.out.1
  have qx5_0 : w5.cell? ⟨w.heap.size, 0, none⟩ = some (.int .i64 C) := Kx5.out.2 0 (by simp)
  have qx5_1 : w5.cell? ⟨w.heap.size, 1, none⟩ = some (.int .i64 S) := Kx5.out.2 1 (by simp)
  have qx5_2 : w5.cell? ⟨w.heap.size, 2, none⟩ = some (.int .i64 P) := Kx5.out.2 2 (by simp)
  have qx5_3 : w5.cell? ⟨w.heap.size, 3, none⟩ = some (.int .i64 A) := Kx5.out.2 3 (by simp)
  have qx5_4 : w5.cell? ⟨w.heap.size, 4, none⟩ = some (.int .i64 B) := Kx5.out.2 4 (by simp)
  have qx5_5 : w5.cell? ⟨w.heap.size, 5, none⟩ = some (.int .i64 n) := Kx5.out.2 5 (by simp)
  go_wp2_with fail
  refine (Mul_any C S P A B _ (by omega) hP).mono ?_
  rintro e w6 ⟨rfl, hb6⟩
  rw [RM.out]
  have Kx6 : Hid (CellsAt w6 (w.heap.size) [.int .i64 C, .int .i64 S, .int .i64 P, .int .i64 A, .int .i64 B, .int .i64 n]) := CellsAt.below (Kx5.out) hb6
  have HB6 : Hid (Below w.heap.size w w6) := bwStep (HB5.out) hb6
  clear hb6 yx5 qx5_0 qx5_1 qx5_2 qx5_3 qx5_4 qx5_5
  have yx6 := Kx6.out.1
  have qx6_0 : w6.cell? ⟨w.heap.size, 0, none⟩ = some (.int .i64 C) := Kx6.out.2 0 (by simp)
  have qx6_1 : w6.cell? ⟨w.heap.size, 1, none⟩ = some (.int .i64 S) := Kx6.out.2 1 (by simp)
  have qx6_2 : w6.cell? ⟨w.heap.size, 2, none⟩ = some (.int .i64 P) := Kx6.out.2 2 (by simp)
  have qx6_3 : w6.cell? ⟨w.heap.size, 3, none⟩ = some (.int .i64 A) := Kx6.out.2 3 (by simp)
  have qx6_4 : w6.cell? ⟨w.heap.size, 4, none⟩ = some (.int .i64 B) := Kx6.out.2 4 (by simp)
  have qx6_5 : w6.cell? ⟨w.heap.size, 5, none⟩ = some (.int .i64 n) := Kx6.out.2 5 (by simp)
  go_wp2_with fail
  refine (Log_any C S P m _ (by omega) hP).mono ?_
  rintro e w7 ⟨rfl, hb7⟩
  rw [RL.out]
  have Kx7 : Hid (CellsAt w7 (w.heap.size) [.int .i64 C, .int .i64 S, .int .i64 P, .int .i64 A, .int .i64 B, .int .i64 n]) := CellsAt.below (Kx6.out) hb7
  have HB7 : Hid (Below w.heap.size w w7) := bwStep (HB6.out) hb7
  clear hb7 yx6 qx6_0 qx6_1 qx6_2 qx6_3 qx6_4 qx6_5
  have yx7 := Kx7.out.1
  have qx7_0 : w7.cell? ⟨w.heap.size, 0, none⟩ = some (.int .i64 C) := Kx7.out.2 0 (by simp)
  have qx7_1 : w7.cell? ⟨w.heap.size, 1, none⟩ = some (.int .i64 S) := Kx7.out.2 1 (by simp)
  have qx7_2 : w7.cell? ⟨w.heap.size, 2, none⟩ = some (.int .i64 P) := Kx7.out.2 2 (by simp)
  have qx7_3 : w7.cell? ⟨w.heap.size, 3, none⟩ = some (.int .i64 A) := Kx7.out.2 3 (by simp)
  have qx7_4 : w7.cell? ⟨w.heap.size, 4, none⟩ = some (.int .i64 B) := Kx7.out.2 4 (by simp)
  have qx7_5 : w7.cell? ⟨w.heap.size, 5, none⟩ = some (.int .i64 n) := Kx7.out.2 5 (by simp)
  go_wp2_with fail
  refine (Exp_any C S P la _ (by omega) hP (by omega) (by omega)).mono ?_
  rintro e w8 ⟨rfl, hb8⟩
  rw [RE.out]
  have Kx8 : Hid (CellsAt w8 (w.heap.size) [.int .i64 C, .int .i64 S, .int .i64 P, .int .i64 A, .int .i64 B, .int .i64 n]) := CellsAt.below (Kx7.out) hb8
  have HB8 : Hid (Below w.heap.size w w8) := bwStep (HB7.out) hb8
  clear hb8 yx7 qx7_0 qx7_1 qx7_2 qx7_3 qx7_4 qx7_5
  have yx8 := Kx8.out.1
  have qx8_0 : w8.cell? ⟨w.heap.size, 0, none⟩ = some (.int .i64 C) := Kx8.out.2 0 (by simp)
  have qx8_1 : w8.cell? ⟨w.heap.size, 1, none⟩ = some (.int .i64 S) := Kx8.out.2 1 (by simp)
  have qx8_2 : w8.cell? ⟨w.heap.size, 2, none⟩ = some (.int .i64 P) := Kx8.out.2 2 (by simp)
  have qx8_3 : w8.cell? ⟨w.heap.size, 3, none⟩ = some (.int .i64 A) := Kx8.out.2 3 (by simp)
  have qx8_4 : w8.cell? ⟨w.heap.size, 4, none⟩ = some (.int .i64 B) := Kx8.out.2 4 (by simp)
  have qx8_5 : w8.cell? ⟨w.heap.size, 5, none⟩ = some (.int .i64 n) := Kx8.out.2 5 (by simp)
  go_wp2_with fail
  refine (alive_any _).mono ?_
  rintro e w9 ⟨rfl, hb9⟩
  have Kx9 : Hid (CellsAt w9 (w.heap.size) [.int .i64 C, .int .i64 S, .int .i64 P, .int .i64 A, .int .i64 B, .int .i64 n]) := CellsAt.below (Kx8.out) hb9
  have HB9 : Hid (Below w.heap.size w w9) := bwStep (HB8.out) hb9
  clear hb9 yx8 qx8_0 qx8_1 qx8_2 qx8_3 qx8_4 qx8_5
  have yx9 := Kx9.out.1
  have qx9_0 : w9.cell? ⟨w.heap.size, 0, none⟩ = some (.int .i64 C) := Kx9.out.2 0 (by simp)
  have qx9_1 : w9.cell? ⟨w.heap.size, 1, none⟩ = some (.int .i64 S) := Kx9.out.2 1 (by simp)
  have qx9_2 : w9.cell? ⟨w.heap.size, 2, none⟩ = some (.int .i64 P) := Kx9.out.2 2 (by simp)
  have qx9_3 : w9.cell? ⟨w.heap.size, 3, none⟩ = some (.int .i64 A) := Kx9.out.2 3 (by simp)
  have qx9_4 : w9.cell? ⟨w.heap.size, 4, none⟩ = some (.int .i64 B) := Kx9.out.2 4 (by simp)
  have qx9_5 : w9.cell? ⟨w.heap.size, 5, none⟩ = some (.int .i64 n) := Kx9.out.2 5 (by simp)
  go_wp2_with fail
  go_ret
  exact ⟨rfl, HB9.out⟩
theorem law_walk (c s p a b n : Int) (bc : I64 c) (bs : I64 s) (bp : I64 p) (ba : I64 a) (bb : I64 b) (bn : I64 n) (w : World) :
    Calls Try.prog 4 #[.agg #[.int .i64 c, .int .i64 s, .int .i64 p, .int .i64 a, .int .i64 b, .int .i64 n]] w fun e w' => e = .returned (.bool true) ∧ Below w.heap.size w w' := by
  cases hx0 : vldB c s p
  · exact no0 c s p a b n w bc bs bp ba bb bn hx0
  cases hx1 : isB s a
  · exact no1 c s p a b n w bc bs bp ba bb bn hx0 hx1
  cases hx2 : isB s b
  · exact no2 c s p a b n w bc bs bp ba bb bn hx0 hx1 hx2
  by_cases h0 : a = 0
  · exact z0 c s p a b n w bc bs bp ba bb bn hx0 hx1 hx2 (beq_iff_eq.2 h0)
  by_cases h1 : b = 0
  · exact z1 c s p a b n w bc bs bp ba bb bn hx0 hx1 hx2 (beq_false_of_ne h0) (beq_iff_eq.2 h1)
  obtain ⟨C, S, P, A, B, rfl, rfl, rfl, rfl, rfl, ha, hb, hv⟩ := ok2_nat (c := c) (s := s) (p := p) (a := a) (b := b) (by unfold ok2; rw [hx0, hx1, hx2]; rfl)
  exact yes C S P A B n w hv ha hb (by omega) (by omega)
end Go.Proofs.Ytefnflmabdpnbaa.galoisLogarithms
