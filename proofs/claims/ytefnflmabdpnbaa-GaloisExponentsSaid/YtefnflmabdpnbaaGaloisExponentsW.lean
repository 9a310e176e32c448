import Derived.Test.YtefnflmabdpnbaaCalc
namespace Go.Proofs.Ytefnflmabdpnbaa.galoisExponents
open Go.RowKit
set_option linter.unusedVariables false
abbrev I64 (a : Int) : Prop := -9223372036854775808 ≤ a ∧ a ≤ 9223372036854775807
set_option maxRecDepth 100000 in
set_option maxHeartbeats 4000000 in
theorem no0 (c s p a b n m : Int) (w : World) (bc : I64 c) (bs : I64 s) (bp : I64 p) (ba : I64 a) (bb : I64 b) (bn : I64 n) (bm : I64 m) (hx0 : vldB c s p = false) :
    Calls Try.prog 9 #[.agg #[.int .i64 c, .int .i64 s, .int .i64 p, .int .i64 a, .int .i64 b, .int .i64 n], .int .i64 m] w fun e w' => e = .returned (.bool true) ∧ Below w.heap.size w w' := by
  have HX0 := Lib.hid hx0; clear hx0
  go_enter Try.func9, Try.ntmps9
  go_wp2_with fail
  refine (rvalid_any c s p _ (by omega) (by omega)).mono ?_
  rintro e w1 ⟨rfl, hb1⟩
  rw [HX0.out]
  have Kx1 : Hid (CellsAt w1 (w.heap.size) [.int .i64 c, .int .i64 s, .int .i64 p, .int .i64 a, .int .i64 b, .int .i64 n]) := CellsAt.below (CellsAt.new _ #[.int .i64 c, .int .i64 s, .int .i64 p, .int .i64 a, .int .i64 b, .int .i64 n] 32 _ (by simp)) hb1
  have HB1 : Hid (Below w.heap.size w w1) := bwStep (bwAlloc ((Below.refl _ _)) _) hb1
  clear hb1 
  have yx1 := Kx1.out.1
  have qx1_0 : w1.cell? ⟨w.heap.size, 0, none⟩ = some (.int .i64 c) := Kx1.out.2 0 (by simp)
  have qx1_1 : w1.cell? ⟨w.heap.size, 1, none⟩ = some (.int .i64 s) := Kx1.out.2 1 (by simp)
  have qx1_2 : w1.cell? ⟨w.heap.size, 2, none⟩ = some (.int .i64 p) := Kx1.out.2 2 (by simp)
  have qx1_3 : w1.cell? ⟨w.heap.size, 3, none⟩ = some (.int .i64 a) := Kx1.out.2 3 (by simp)
  have qx1_4 : w1.cell? ⟨w.heap.size, 4, none⟩ = some (.int .i64 b) := Kx1.out.2 4 (by simp)
  have qx1_5 : w1.cell? ⟨w.heap.size, 5, none⟩ = some (.int .i64 n) := Kx1.out.2 5 (by simp)
  go_wp2_with fail
  refine (alive_any _).mono ?_
  rintro e w2 ⟨rfl, hb2⟩
  have Kx2 : Hid (CellsAt w2 (w.heap.size) [.int .i64 c, .int .i64 s, .int .i64 p, .int .i64 a, .int .i64 b, .int .i64 n]) := CellsAt.below (Kx1.out) hb2
  have HB2 : Hid (Below w.heap.size w w2) := bwStep (HB1.out) hb2
  clear hb2 yx1 qx1_0 qx1_1 qx1_2 qx1_3 qx1_4 qx1_5
  have yx2 := Kx2.out.1
  have qx2_0 : w2.cell? ⟨w.heap.size, 0, none⟩ = some (.int .i64 c) := Kx2.out.2 0 (by simp)
  have qx2_1 : w2.cell? ⟨w.heap.size, 1, none⟩ = some (.int .i64 s) := Kx2.out.2 1 (by simp)
  have qx2_2 : w2.cell? ⟨w.heap.size, 2, none⟩ = some (.int .i64 p) := Kx2.out.2 2 (by simp)
  have qx2_3 : w2.cell? ⟨w.heap.size, 3, none⟩ = some (.int .i64 a) := Kx2.out.2 3 (by simp)
  have qx2_4 : w2.cell? ⟨w.heap.size, 4, none⟩ = some (.int .i64 b) := Kx2.out.2 4 (by simp)
  have qx2_5 : w2.cell? ⟨w.heap.size, 5, none⟩ = some (.int .i64 n) := Kx2.out.2 5 (by simp)
  go_wp2_with fail
  go_ret
  exact ⟨rfl, HB2.out⟩
set_option maxRecDepth 100000 in
set_option maxHeartbeats 4000000 in
theorem no1 (c s p a b n m : Int) (w : World) (bc : I64 c) (bs : I64 s) (bp : I64 p) (ba : I64 a) (bb : I64 b) (bn : I64 n) (bm : I64 m) (hx0 : vldB c s p = true) (hx1 : isB s a = false) :
    Calls Try.prog 9 #[.agg #[.int .i64 c, .int .i64 s, .int .i64 p, .int .i64 a, .int .i64 b, .int .i64 n], .int .i64 m] w fun e w' => e = .returned (.bool true) ∧ Below w.heap.size w w' := by
  have HX0 := Lib.hid hx0; clear hx0
  have HX1 := Lib.hid hx1; clear hx1
  go_enter Try.func9, Try.ntmps9
  go_wp2_with fail
  refine (rvalid_any c s p _ (by omega) (by omega)).mono ?_
  rintro e w1 ⟨rfl, hb1⟩
  rw [HX0.out]
  have Kx1 : Hid (CellsAt w1 (w.heap.size) [.int .i64 c, .int .i64 s, .int .i64 p, .int .i64 a, .int .i64 b, .int .i64 n]) := CellsAt.below (CellsAt.new _ #[.int .i64 c, .int .i64 s, .int .i64 p, .int .i64 a, .int .i64 b, .int .i64 n] 32 _ (by simp)) hb1
  have HB1 : Hid (Below w.heap.size w w1) := bwStep (bwAlloc ((Below.refl _ _)) _) hb1
  clear hb1 
  have yx1 := Kx1.out.1
  have qx1_0 : w1.cell? ⟨w.heap.size, 0, none⟩ = some (.int .i64 c) := Kx1.out.2 0 (by simp)
  have qx1_1 : w1.cell? ⟨w.heap.size, 1, none⟩ = some (.int .i64 s) := Kx1.out.2 1 (by simp)
  have qx1_2 : w1.cell? ⟨w.heap.size, 2, none⟩ = some (.int .i64 p) := Kx1.out.2 2 (by simp)
  have qx1_3 : w1.cell? ⟨w.heap.size, 3, none⟩ = some (.int .i64 a) := Kx1.out.2 3 (by simp)
  have qx1_4 : w1.cell? ⟨w.heap.size, 4, none⟩ = some (.int .i64 b) := Kx1.out.2 4 (by simp)
  have qx1_5 : w1.cell? ⟨w.heap.size, 5, none⟩ = some (.int .i64 n) := Kx1.out.2 5 (by simp)
  go_wp2_with fail
  refine (is_any c s p a _).mono ?_
  rintro e w2 ⟨rfl, hb2⟩
  rw [HX1.out]
  have Kx2 : Hid (CellsAt w2 (w.heap.size) [.int .i64 c, .int .i64 s, .int .i64 p, .int .i64 a, .int .i64 b, .int .i64 n]) := CellsAt.below (Kx1.out) hb2
  have HB2 : Hid (Below w.heap.size w w2) := bwStep (HB1.out) hb2
  clear hb2 yx1 qx1_0 qx1_1 qx1_2 qx1_3 qx1_4 qx1_5
  have yx2 := Kx2.out.1
  have qx2_0 : w2.cell? ⟨w.heap.size, 0, none⟩ = some (.int .i64 c) := Kx2.out.2 0 (by simp)
  have qx2_1 : w2.cell? ⟨w.heap.size, 1, none⟩ = some (.int .i64 s) := Kx2.out.2 1 (by simp)
  have qx2_2 : w2.cell? ⟨w.heap.size, 2, none⟩ = some (.int .i64 p) := Kx2.out.2 2 (by simp)
  have qx2_3 : w2.cell? ⟨w.heap.size, 3, none⟩ = some (.int .i64 a) := Kx2.out.2 3 (by simp)
  have qx2_4 : w2.cell? ⟨w.heap.size, 4, none⟩ = some (.int .i64 b) := Kx2.out.2 4 (by simp)
  have qx2_5 : w2.cell? ⟨w.heap.size, 5, none⟩ = some (.int .i64 n) := Kx2.out.2 5 (by simp)
  go_wp2_with fail
  refine (alive_any _).mono ?_
  rintro e w3 ⟨rfl, hb3⟩
  have Kx3 : Hid (CellsAt w3 (w.heap.size) [.int .i64 c, .int .i64 s, .int .i64 p, .int .i64 a, .int .i64 b, .int .i64 n]) := CellsAt.below (Kx2.out) hb3
  have HB3 : Hid (Below w.heap.size w w3) := bwStep (HB2.out) hb3
  clear hb3 yx2 qx2_0 qx2_1 qx2_2 qx2_3 qx2_4 qx2_5
  have yx3 := Kx3.out.1
  have qx3_0 : w3.cell? ⟨w.heap.size, 0, none⟩ = some (.int .i64 c) := Kx3.out.2 0 (by simp)
  have qx3_1 : w3.cell? ⟨w.heap.size, 1, none⟩ = some (.int .i64 s) := Kx3.out.2 1 (by simp)
  have qx3_2 : w3.cell? ⟨w.heap.size, 2, none⟩ = some (.int .i64 p) := Kx3.out.2 2 (by simp)
  have qx3_3 : w3.cell? ⟨w.heap.size, 3, none⟩ = some (.int .i64 a) := Kx3.out.2 3 (by simp)
  have qx3_4 : w3.cell? ⟨w.heap.size, 4, none⟩ = some (.int .i64 b) := Kx3.out.2 4 (by simp)
  have qx3_5 : w3.cell? ⟨w.heap.size, 5, none⟩ = some (.int .i64 n) := Kx3.out.2 5 (by simp)
  go_wp2_with fail
  go_ret
  exact ⟨rfl, HB3.out⟩
set_option maxRecDepth 100000 in
set_option maxHeartbeats 4000000 in
theorem no2 (c s p a b n m : Int) (w : World) (bc : I64 c) (bs : I64 s) (bp : I64 p) (ba : I64 a) (bb : I64 b) (bn : I64 n) (bm : I64 m) (hx0 : vldB c s p = true) (hx1 : isB s a = true) (hx2 : isB s b = false) :
    Calls Try.prog 9 #[.agg #[.int .i64 c, .int .i64 s, .int .i64 p, .int .i64 a, .int .i64 b, .int .i64 n], .int .i64 m] w fun e w' => e = .returned (.bool true) ∧ Below w.heap.size w w' := by
  have HX0 := Lib.hid hx0; clear hx0
  have HX1 := Lib.hid hx1; clear hx1
  have HX2 := Lib.hid hx2; clear hx2
  go_enter Try.func9, Try.ntmps9
  go_wp2_with fail
  refine (rvalid_any c s p _ (by omega) (by omega)).mono ?_
  rintro e w1 ⟨rfl, hb1⟩
  rw [HX0.out]
  have Kx1 : Hid (CellsAt w1 (w.heap.size) [.int .i64 c, .int .i64 s, .int .i64 p, .int .i64 a, .int .i64 b, .int .i64 n]) := CellsAt.below (CellsAt.new _ #[.int .i64 c, .int .i64 s, .int .i64 p, .int .i64 a, .int .i64 b, .int .i64 n] 32 _ (by simp)) hb1
  have HB1 : Hid (Below w.heap.size w w1) := bwStep (bwAlloc ((Below.refl _ _)) _) hb1
  clear hb1 
  have yx1 := Kx1.out.1
  have qx1_0 : w1.cell? ⟨w.heap.size, 0, none⟩ = some (.int .i64 c) := Kx1.out.2 0 (by simp)
  have qx1_1 : w1.cell? ⟨w.heap.size, 1, none⟩ = some (.int .i64 s) := Kx1.out.2 1 (by simp)
  have qx1_2 : w1.cell? ⟨w.heap.size, 2, none⟩ = some (.int .i64 p) := Kx1.out.2 2 (by simp)
  have qx1_3 : w1.cell? ⟨w.heap.size, 3, none⟩ = some (.int .i64 a) := Kx1.out.2 3 (by simp)
  have qx1_4 : w1.cell? ⟨w.heap.size, 4, none⟩ = some (.int .i64 b) := Kx1.out.2 4 (by simp)
  have qx1_5 : w1.cell? ⟨w.heap.size, 5, none⟩ = some (.int .i64 n) := Kx1.out.2 5 (by simp)
  go_wp2_with fail
  refine (is_any c s p a _).mono ?_
  rintro e w2 ⟨rfl, hb2⟩
  rw [HX1.out]
  have Kx2 : Hid (CellsAt w2 (w.heap.size) [.int .i64 c, .int .i64 s, .int .i64 p, .int .i64 a, .int .i64 b, .int .i64 n]) := CellsAt.below (Kx1.out) hb2
  have HB2 : Hid (Below w.heap.size w w2) := bwStep (HB1.out) hb2
  clear hb2 yx1 qx1_0 qx1_1 qx1_2 qx1_3 qx1_4 qx1_5
  have yx2 := Kx2.out.1
  have qx2_0 : w2.cell? ⟨w.heap.size, 0, none⟩ = some (.int .i64 c) := Kx2.out.2 0 (by simp)
  have qx2_1 : w2.cell? ⟨w.heap.size, 1, none⟩ = some (.int .i64 s) := Kx2.out.2 1 (by simp)
  have qx2_2 : w2.cell? ⟨w.heap.size, 2, none⟩ = some (.int .i64 p) := Kx2.out.2 2 (by simp)
  have qx2_3 : w2.cell? ⟨w.heap.size, 3, none⟩ = some (.int .i64 a) := Kx2.out.2 3 (by simp)
  have qx2_4 : w2.cell? ⟨w.heap.size, 4, none⟩ = some (.int .i64 b) := Kx2.out.2 4 (by simp)
  have qx2_5 : w2.cell? ⟨w.heap.size, 5, none⟩ = some (.int .i64 n) := Kx2.out.2 5 (by simp)
  go_wp2_with fail
  refine (is_any c s p b _).mono ?_
  rintro e w3 ⟨rfl, hb3⟩
  rw [HX2.out]
  have Kx3 : Hid (CellsAt w3 (w.heap.size) [.int .i64 c, .int .i64 s, .int .i64 p, .int .i64 a, .int .i64 b, .int .i64 n]) := CellsAt.below (Kx2.out) hb3
  have HB3 : Hid (Below w.heap.size w w3) := bwStep (HB2.out) hb3
  clear hb3 yx2 qx2_0 qx2_1 qx2_2 qx2_3 qx2_4 qx2_5
  have yx3 := Kx3.out.1
  have qx3_0 : w3.cell? ⟨w.heap.size, 0, none⟩ = some (.int .i64 c) := Kx3.out.2 0 (by simp)
  have qx3_1 : w3.cell? ⟨w.heap.size, 1, none⟩ = some (.int .i64 s) := Kx3.out.2 1 (by simp)
  have qx3_2 : w3.cell? ⟨w.heap.size, 2, none⟩ = some (.int .i64 p) := Kx3.out.2 2 (by simp)
  have qx3_3 : w3.cell? ⟨w.heap.size, 3, none⟩ = some (.int .i64 a) := Kx3.out.2 3 (by simp)
  have qx3_4 : w3.cell? ⟨w.heap.size, 4, none⟩ = some (.int .i64 b) := Kx3.out.2 4 (by simp)
  have qx3_5 : w3.cell? ⟨w.heap.size, 5, none⟩ = some (.int .i64 n) := Kx3.out.2 5 (by simp)
  go_wp2_with fail
  refine (alive_any _).mono ?_
  rintro e w4 ⟨rfl, hb4⟩
  have Kx4 : Hid (CellsAt w4 (w.heap.size) [.int .i64 c, .int .i64 s, .int .i64 p, .int .i64 a, .int .i64 b, .int .i64 n]) := CellsAt.below (Kx3.out) hb4
  have HB4 : Hid (Below w.heap.size w w4) := bwStep (HB3.out) hb4
  clear hb4 yx3 qx3_0 qx3_1 qx3_2 qx3_3 qx3_4 qx3_5
  have yx4 := Kx4.out.1
  have qx4_0 : w4.cell? ⟨w.heap.size, 0, none⟩ = some (.int .i64 c) := Kx4.out.2 0 (by simp)
  have qx4_1 : w4.cell? ⟨w.heap.size, 1, none⟩ = some (.int .i64 s) := Kx4.out.2 1 (by simp)
  have qx4_2 : w4.cell? ⟨w.heap.size, 2, none⟩ = some (.int .i64 p) := Kx4.out.2 2 (by simp)
  have qx4_3 : w4.cell? ⟨w.heap.size, 3, none⟩ = some (.int .i64 a) := Kx4.out.2 3 (by simp)
  have qx4_4 : w4.cell? ⟨w.heap.size, 4, none⟩ = some (.int .i64 b) := Kx4.out.2 4 (by simp)
  have qx4_5 : w4.cell? ⟨w.heap.size, 5, none⟩ = some (.int .i64 n) := Kx4.out.2 5 (by simp)
  go_wp2_with fail
  go_ret
  exact ⟨rfl, HB4.out⟩
set_option maxRecDepth 100000 in
set_option maxHeartbeats 4000000 in
theorem z0 (c s p a b n m : Int) (w : World) (bc : I64 c) (bs : I64 s) (bp : I64 p) (ba : I64 a) (bb : I64 b) (bn : I64 n) (bm : I64 m) (hx0 : vldB c s p = true) (hx1 : isB s a = true) (hx2 : isB s b = true) (hz0 : (a == 0) = true) :
    Calls Try.prog 9 #[.agg #[.int .i64 c, .int .i64 s, .int .i64 p, .int .i64 a, .int .i64 b, .int .i64 n], .int .i64 m] w fun e w' => e = .returned (.bool true) ∧ Below w.heap.size w w' := by
  have HX0 := Lib.hid hx0; clear hx0
  have HX1 := Lib.hid hx1; clear hx1
  have HX2 := Lib.hid hx2; clear hx2
  go_enter Try.func9, Try.ntmps9
  go_wp2_with fail
  refine (rvalid_any c s p _ (by omega) (by omega)).mono ?_
  rintro e w1 ⟨rfl, hb1⟩
  rw [HX0.out]
  have Kx1 : Hid (CellsAt w1 (w.heap.size) [.int .i64 c, .int .i64 s, .int .i64 p, .int .i64 a, .int .i64 b, .int .i64 n]) := CellsAt.below (CellsAt.new _ #[.int .i64 c, .int .i64 s, .int .i64 p, .int .i64 a, .int .i64 b, .int .i64 n] 32 _ (by simp)) hb1
  have HB1 : Hid (Below w.heap.size w w1) := bwStep (bwAlloc ((Below.refl _ _)) _) hb1
  clear hb1 
  have yx1 := Kx1.out.1
  have qx1_0 : w1.cell? ⟨w.heap.size, 0, none⟩ = some (.int .i64 c) := Kx1.out.2 0 (by simp)
  have qx1_1 : w1.cell? ⟨w.heap.size, 1, none⟩ = some (.int .i64 s) := Kx1.out.2 1 (by simp)
  have qx1_2 : w1.cell? ⟨w.heap.size, 2, none⟩ = some (.int .i64 p) := Kx1.out.2 2 (by simp)
  have qx1_3 : w1.cell? ⟨w.heap.size, 3, none⟩ = some (.int .i64 a) := Kx1.out.2 3 (by simp)
  have qx1_4 : w1.cell? ⟨w.heap.size, 4, none⟩ = some (.int .i64 b) := Kx1.out.2 4 (by simp)
  have qx1_5 : w1.cell? ⟨w.heap.size, 5, none⟩ = some (.int .i64 n) := Kx1.out.2 5 (by simp)
  go_wp2_with fail
  refine (is_any c s p a _).mono ?_
  rintro e w2 ⟨rfl, hb2⟩
  rw [HX1.out]
  have Kx2 : Hid (CellsAt w2 (w.heap.size) [.int .i64 c, .int .i64 s, .int .i64 p, .int .i64 a, .int .i64 b, .int .i64 n]) := CellsAt.below (Kx1.out) hb2
  have HB2 : Hid (Below w.heap.size w w2) := bwStep (HB1.out) hb2
  clear hb2 yx1 qx1_0 qx1_1 qx1_2 qx1_3 qx1_4 qx1_5
  have yx2 := Kx2.out.1
  have qx2_0 : w2.cell? ⟨w.heap.size, 0, none⟩ = some (.int .i64 c) := Kx2.out.2 0 (by simp)
  have qx2_1 : w2.cell? ⟨w.heap.size, 1, none⟩ = some (.int .i64 s) := Kx2.out.2 1 (by simp)
  have qx2_2 : w2.cell? ⟨w.heap.size, 2, none⟩ = some (.int .i64 p) := Kx2.out.2 2 (by simp)
  have qx2_3 : w2.cell? ⟨w.heap.size, 3, none⟩ = some (.int .i64 a) := Kx2.out.2 3 (by simp)
  have qx2_4 : w2.cell? ⟨w.heap.size, 4, none⟩ = some (.int .i64 b) := Kx2.out.2 4 (by simp)
  have qx2_5 : w2.cell? ⟨w.heap.size, 5, none⟩ = some (.int .i64 n) := Kx2.out.2 5 (by simp)
  go_wp2_with fail
  refine (is_any c s p b _).mono ?_
  rintro e w3 ⟨rfl, hb3⟩
  rw [HX2.out]
  have Kx3 : Hid (CellsAt w3 (w.heap.size) [.int .i64 c, .int .i64 s, .int .i64 p, .int .i64 a, .int .i64 b, .int .i64 n]) := CellsAt.below (Kx2.out) hb3
  have HB3 : Hid (Below w.heap.size w w3) := bwStep (HB2.out) hb3
  clear hb3 yx2 qx2_0 qx2_1 qx2_2 qx2_3 qx2_4 qx2_5
  have yx3 := Kx3.out.1
  have qx3_0 : w3.cell? ⟨w.heap.size, 0, none⟩ = some (.int .i64 c) := Kx3.out.2 0 (by simp)
  have qx3_1 : w3.cell? ⟨w.heap.size, 1, none⟩ = some (.int .i64 s) := Kx3.out.2 1 (by simp)
  have qx3_2 : w3.cell? ⟨w.heap.size, 2, none⟩ = some (.int .i64 p) := Kx3.out.2 2 (by simp)
  have qx3_3 : w3.cell? ⟨w.heap.size, 3, none⟩ = some (.int .i64 a) := Kx3.out.2 3 (by simp)
  have qx3_4 : w3.cell? ⟨w.heap.size, 4, none⟩ = some (.int .i64 b) := Kx3.out.2 4 (by simp)
  have qx3_5 : w3.cell? ⟨w.heap.size, 5, none⟩ = some (.int .i64 n) := Kx3.out.2 5 (by simp)
  go_wp2_with fail
  refine (alive_any _).mono ?_
  rintro e w4 ⟨rfl, hb4⟩
  have Kx4 : Hid (CellsAt w4 (w.heap.size) [.int .i64 c, .int .i64 s, .int .i64 p, .int .i64 a, .int .i64 b, .int .i64 n]) := CellsAt.below (Kx3.out) hb4
  have HB4 : Hid (Below w.heap.size w w4) := bwStep (HB3.out) hb4
  clear hb4 yx3 qx3_0 qx3_1 qx3_2 qx3_3 qx3_4 qx3_5
  have yx4 := Kx4.out.1
  have qx4_0 : w4.cell? ⟨w.heap.size, 0, none⟩ = some (.int .i64 c) := Kx4.out.2 0 (by simp)
  have qx4_1 : w4.cell? ⟨w.heap.size, 1, none⟩ = some (.int .i64 s) := Kx4.out.2 1 (by simp)
  have qx4_2 : w4.cell? ⟨w.heap.size, 2, none⟩ = some (.int .i64 p) := Kx4.out.2 2 (by simp)
  have qx4_3 : w4.cell? ⟨w.heap.size, 3, none⟩ = some (.int .i64 a) := Kx4.out.2 3 (by simp)
  have qx4_4 : w4.cell? ⟨w.heap.size, 4, none⟩ = some (.int .i64 b) := Kx4.out.2 4 (by simp)
  have qx4_5 : w4.cell? ⟨w.heap.size, 5, none⟩ = some (.int .i64 n) := Kx4.out.2 5 (by simp)
  go_wp2_with fail
  go_ret
  exact ⟨rfl, HB4.out⟩
set_option maxRecDepth 100000 in
set_option maxHeartbeats 4000000 in
theorem z1 (c s p a b n m : Int) (w : World) (bc : I64 c) (bs : I64 s) (bp : I64 p) (ba : I64 a) (bb : I64 b) (bn : I64 n) (bm : I64 m) (hx0 : vldB c s p = true) (hx1 : isB s a = true) (hx2 : isB s b = true) (hz0 : (a == 0) = false) (hz1 : n < -1099511627776) :
    Calls Try.prog 9 #[.agg #[.int .i64 c, .int .i64 s, .int .i64 p, .int .i64 a, .int .i64 b, .int .i64 n], .int .i64 m] w fun e w' => e = .returned (.bool true) ∧ Below w.heap.size w w' := by
  have HX0 := Lib.hid hx0; clear hx0
  have HX1 := Lib.hid hx1; clear hx1
  have HX2 := Lib.hid hx2; clear hx2
  go_enter Try.func9, Try.ntmps9
  go_wp2_with fail
  refine (rvalid_any c s p _ (by omega) (by omega)).mono ?_
  rintro e w1 ⟨rfl, hb1⟩
  rw [HX0.out]
  have Kx1 : Hid (CellsAt w1 (w.heap.size) [.int .i64 c, .int .i64 s, .int .i64 p, .int .i64 a, .int .i64 b, .int .i64 n]) := CellsAt.below (CellsAt.new _ #[.int .i64 c, .int .i64 s, .int .i64 p, .int .i64 a, .int .i64 b, .int .i64 n] 32 _ (by simp)) hb1
  have HB1 : Hid (Below w.heap.size w w1) := bwStep (bwAlloc ((Below.refl _ _)) _) hb1
  clear hb1 
  have yx1 := Kx1.out.1
  have qx1_0 : w1.cell? ⟨w.heap.size, 0, none⟩ = some (.int .i64 c) := Kx1.out.2 0 (by simp)
  have qx1_1 : w1.cell? ⟨w.heap.size, 1, none⟩ = some (.int .i64 s) := Kx1.out.2 1 (by simp)
  have qx1_2 : w1.cell? ⟨w.heap.size, 2, none⟩ = some (.int .i64 p) := Kx1.out.2 2 (by simp)
  have qx1_3 : w1.cell? ⟨w.heap.size, 3, none⟩ = some (.int .i64 a) := Kx1.out.2 3 (by simp)
  have qx1_4 : w1.cell? ⟨w.heap.size, 4, none⟩ = some (.int .i64 b) := Kx1.out.2 4 (by simp)
  have qx1_5 : w1.cell? ⟨w.heap.size, 5, none⟩ = some (.int .i64 n) := Kx1.out.2 5 (by simp)
  go_wp2_with fail
  refine (is_any c s p a _).mono ?_
  rintro e w2 ⟨rfl, hb2⟩
  rw [HX1.out]
  have Kx2 : Hid (CellsAt w2 (w.heap.size) [.int .i64 c, .int .i64 s, .int .i64 p, .int .i64 a, .int .i64 b, .int .i64 n]) := CellsAt.below (Kx1.out) hb2
  have HB2 : Hid (Below w.heap.size w w2) := bwStep (HB1.out) hb2
  clear hb2 yx1 qx1_0 qx1_1 qx1_2 qx1_3 qx1_4 qx1_5
  have yx2 := Kx2.out.1
  have qx2_0 : w2.cell? ⟨w.heap.size, 0, none⟩ = some (.int .i64 c) := Kx2.out.2 0 (by simp)
  have qx2_1 : w2.cell? ⟨w.heap.size, 1, none⟩ = some (.int .i64 s) := Kx2.out.2 1 (by simp)
  have qx2_2 : w2.cell? ⟨w.heap.size, 2, none⟩ = some (.int .i64 p) := Kx2.out.2 2 (by simp)
  have qx2_3 : w2.cell? ⟨w.heap.size, 3, none⟩ = some (.int .i64 a) := Kx2.out.2 3 (by simp)
  have qx2_4 : w2.cell? ⟨w.heap.size, 4, none⟩ = some (.int .i64 b) := Kx2.out.2 4 (by simp)
  have qx2_5 : w2.cell? ⟨w.heap.size, 5, none⟩ = some (.int .i64 n) := Kx2.out.2 5 (by simp)
  go_wp2_with fail
  refine (is_any c s p b _).mono ?_
  rintro e w3 ⟨rfl, hb3⟩
  rw [HX2.out]
  have Kx3 : Hid (CellsAt w3 (w.heap.size) [.int .i64 c, .int .i64 s, .int .i64 p, .int .i64 a, .int .i64 b, .int .i64 n]) := CellsAt.below (Kx2.out) hb3
  have HB3 : Hid (Below w.heap.size w w3) := bwStep (HB2.out) hb3
  clear hb3 yx2 qx2_0 qx2_1 qx2_2 qx2_3 qx2_4 qx2_5
  have yx3 := Kx3.out.1
  have qx3_0 : w3.cell? ⟨w.heap.size, 0, none⟩ = some (.int .i64 c) := Kx3.out.2 0 (by simp)
  have qx3_1 : w3.cell? ⟨w.heap.size, 1, none⟩ = some (.int .i64 s) := Kx3.out.2 1 (by simp)
  have qx3_2 : w3.cell? ⟨w.heap.size, 2, none⟩ = some (.int .i64 p) := Kx3.out.2 2 (by simp)
  have qx3_3 : w3.cell? ⟨w.heap.size, 3, none⟩ = some (.int .i64 a) := Kx3.out.2 3 (by simp)
  have qx3_4 : w3.cell? ⟨w.heap.size, 4, none⟩ = some (.int .i64 b) := Kx3.out.2 4 (by simp)
  have qx3_5 : w3.cell? ⟨w.heap.size, 5, none⟩ = some (.int .i64 n) := Kx3.out.2 5 (by simp)
  go_wp2_with fail
  refine (alive_any _).mono ?_
  rintro e w4 ⟨rfl, hb4⟩
  have Kx4 : Hid (CellsAt w4 (w.heap.size) [.int .i64 c, .int .i64 s, .int .i64 p, .int .i64 a, .int .i64 b, .int .i64 n]) := CellsAt.below (Kx3.out) hb4
  have HB4 : Hid (Below w.heap.size w w4) := bwStep (HB3.out) hb4
  clear hb4 yx3 qx3_0 qx3_1 qx3_2 qx3_3 qx3_4 qx3_5
  have yx4 := Kx4.out.1
  have qx4_0 : w4.cell? ⟨w.heap.size, 0, none⟩ = some (.int .i64 c) := Kx4.out.2 0 (by simp)
  have qx4_1 : w4.cell? ⟨w.heap.size, 1, none⟩ = some (.int .i64 s) := Kx4.out.2 1 (by simp)
  have qx4_2 : w4.cell? ⟨w.heap.size, 2, none⟩ = some (.int .i64 p) := Kx4.out.2 2 (by simp)
  have qx4_3 : w4.cell? ⟨w.heap.size, 3, none⟩ = some (.int .i64 a) := Kx4.out.2 3 (by simp)
  have qx4_4 : w4.cell? ⟨w.heap.size, 4, none⟩ = some (.int .i64 b) := Kx4.out.2 4 (by simp)
  have qx4_5 : w4.cell? ⟨w.heap.size, 5, none⟩ = some (.int .i64 n) := Kx4.out.2 5 (by simp)
  go_wp2_with fail
  go_ret
  exact ⟨rfl, HB4.out⟩
set_option maxRecDepth 100000 in
set_option maxHeartbeats 4000000 in
theorem z2 (c s p a b n m : Int) (w : World) (bc : I64 c) (bs : I64 s) (bp : I64 p) (ba : I64 a) (bb : I64 b) (bn : I64 n) (bm : I64 m) (hx0 : vldB c s p = true) (hx1 : isB s a = true) (hx2 : isB s b = true) (hz0 : (a == 0) = false) (hz1 : -1099511627776 ≤ n) (hz2 : 1099511627776 < n) :
    Calls Try.prog 9 #[.agg #[.int .i64 c, .int .i64 s, .int .i64 p, .int .i64 a, .int .i64 b, .int .i64 n], .int .i64 m] w fun e w' => e = .returned (.bool true) ∧ Below w.heap.size w w' := by
  have HX0 := Lib.hid hx0; clear hx0
  have HX1 := Lib.hid hx1; clear hx1
  have HX2 := Lib.hid hx2; clear hx2
  go_enter Try.func9, Try.ntmps9
  go_wp2_with fail
  refine (rvalid_any c s p _ (by omega) (by omega)).mono ?_
  rintro e w1 ⟨rfl, hb1⟩
  rw [HX0.out]
  have Kx1 : Hid (CellsAt w1 (w.heap.size) [.int .i64 c, .int .i64 s, .int .i64 p, .int .i64 a, .int .i64 b, .int .i64 n]) := CellsAt.below (CellsAt.new _ #[.int .i64 c, .int .i64 s, .int .i64 p, .int .i64 a, .int .i64 b, .int .i64 n] 32 _ (by simp)) hb1
  have HB1 : Hid (Below w.heap.size w w1) := bwStep (bwAlloc ((Below.refl _ _)) _) hb1
  clear hb1 
  have yx1 := Kx1.out.1
  have qx1_0 : w1.cell? ⟨w.heap.size, 0, none⟩ = some (.int .i64 c) := Kx1.out.2 0 (by simp)
  have qx1_1 : w1.cell? ⟨w.heap.size, 1, none⟩ = some (.int .i64 s) := Kx1.out.2 1 (by simp)
  have qx1_2 : w1.cell? ⟨w.heap.size, 2, none⟩ = some (.int .i64 p) := Kx1.out.2 2 (by simp)
  have qx1_3 : w1.cell? ⟨w.heap.size, 3, none⟩ = some (.int .i64 a) := Kx1.out.2 3 (by simp)
  have qx1_4 : w1.cell? ⟨w.heap.size, 4, none⟩ = some (.int .i64 b) := Kx1.out.2 4 (by simp)
  have qx1_5 : w1.cell? ⟨w.heap.size, 5, none⟩ = some (.int .i64 n) := Kx1.out.2 5 (by simp)
  go_wp2_with fail
  refine (is_any c s p a _).mono ?_
  rintro e w2 ⟨rfl, hb2⟩
  rw [HX1.out]
  have Kx2 : Hid (CellsAt w2 (w.heap.size) [.int .i64 c, .int .i64 s, .int .i64 p, .int .i64 a, .int .i64 b, .int .i64 n]) := CellsAt.below (Kx1.out) hb2
  have HB2 : Hid (Below w.heap.size w w2) := bwStep (HB1.out) hb2
  clear hb2 yx1 qx1_0 qx1_1 qx1_2 qx1_3 qx1_4 qx1_5
  have yx2 := Kx2.out.1
  have qx2_0 : w2.cell? ⟨w.heap.size, 0, none⟩ = some (.int .i64 c) := Kx2.out.2 0 (by simp)
  have qx2_1 : w2.cell? ⟨w.heap.size, 1, none⟩ = some (.int .i64 s) := Kx2.out.2 1 (by simp)
  have qx2_2 : w2.cell? ⟨w.heap.size, 2, none⟩ = some (.int .i64 p) := Kx2.out.2 2 (by simp)
  have qx2_3 : w2.cell? ⟨w.heap.size, 3, none⟩ = some (.int .i64 a) := Kx2.out.2 3 (by simp)
  have qx2_4 : w2.cell? ⟨w.heap.size, 4, none⟩ = some (.int .i64 b) := Kx2.out.2 4 (by simp)
  have qx2_5 : w2.cell? ⟨w.heap.size, 5, none⟩ = some (.int .i64 n) := Kx2.out.2 5 (by simp)
  go_wp2_with fail
  refine (is_any c s p b _).mono ?_
  rintro e w3 ⟨rfl, hb3⟩
  rw [HX2.out]
  have Kx3 : Hid (CellsAt w3 (w.heap.size) [.int .i64 c, .int .i64 s, .int .i64 p, .int .i64 a, .int .i64 b, .int .i64 n]) := CellsAt.below (Kx2.out) hb3
  have HB3 : Hid (Below w.heap.size w w3) := bwStep (HB2.out) hb3
  clear hb3 yx2 qx2_0 qx2_1 qx2_2 qx2_3 qx2_4 qx2_5
  have yx3 := Kx3.out.1
  have qx3_0 : w3.cell? ⟨w.heap.size, 0, none⟩ = some (.int .i64 c) := Kx3.out.2 0 (by simp)
  have qx3_1 : w3.cell? ⟨w.heap.size, 1, none⟩ = some (.int .i64 s) := Kx3.out.2 1 (by simp)
  have qx3_2 : w3.cell? ⟨w.heap.size, 2, none⟩ = some (.int .i64 p) := Kx3.out.2 2 (by simp)
  have qx3_3 : w3.cell? ⟨w.heap.size, 3, none⟩ = some (.int .i64 a) := Kx3.out.2 3 (by simp)
  have qx3_4 : w3.cell? ⟨w.heap.size, 4, none⟩ = some (.int .i64 b) := Kx3.out.2 4 (by simp)
  have qx3_5 : w3.cell? ⟨w.heap.size, 5, none⟩ = some (.int .i64 n) := Kx3.out.2 5 (by simp)
  go_wp2_with fail
  refine (alive_any _).mono ?_
  rintro e w4 ⟨rfl, hb4⟩
  have Kx4 : Hid (CellsAt w4 (w.heap.size) [.int .i64 c, .int .i64 s, .int .i64 p, .int .i64 a, .int .i64 b, .int .i64 n]) := CellsAt.below (Kx3.out) hb4
  have HB4 : Hid (Below w.heap.size w w4) := bwStep (HB3.out) hb4
  clear hb4 yx3 qx3_0 qx3_1 qx3_2 qx3_3 qx3_4 qx3_5
  have yx4 := Kx4.out.1
  have qx4_0 : w4.cell? ⟨w.heap.size, 0, none⟩ = some (.int .i64 c) := Kx4.out.2 0 (by simp)
  have qx4_1 : w4.cell? ⟨w.heap.size, 1, none⟩ = some (.int .i64 s) := Kx4.out.2 1 (by simp)
  have qx4_2 : w4.cell? ⟨w.heap.size, 2, none⟩ = some (.int .i64 p) := Kx4.out.2 2 (by simp)
  have qx4_3 : w4.cell? ⟨w.heap.size, 3, none⟩ = some (.int .i64 a) := Kx4.out.2 3 (by simp)
  have qx4_4 : w4.cell? ⟨w.heap.size, 4, none⟩ = some (.int .i64 b) := Kx4.out.2 4 (by simp)
  have qx4_5 : w4.cell? ⟨w.heap.size, 5, none⟩ = some (.int .i64 n) := Kx4.out.2 5 (by simp)
  go_wp2_with fail
  go_ret
  exact ⟨rfl, HB4.out⟩
set_option maxRecDepth 100000 in
set_option maxHeartbeats 4000000 in
theorem z3 (c s p a b n m : Int) (w : World) (bc : I64 c) (bs : I64 s) (bp : I64 p) (ba : I64 a) (bb : I64 b) (bn : I64 n) (bm : I64 m) (hx0 : vldB c s p = true) (hx1 : isB s a = true) (hx2 : isB s b = true) (hz0 : (a == 0) = false) (hz1 : -1099511627776 ≤ n) (hz2 : n ≤ 1099511627776) (hz3 : m < -1099511627776) :
    Calls Try.prog 9 #[.agg #[.int .i64 c, .int .i64 s, .int .i64 p, .int .i64 a, .int .i64 b, .int .i64 n], .int .i64 m] w fun e w' => e = .returned (.bool true) ∧ Below w.heap.size w w' := by
  have HX0 := Lib.hid hx0; clear hx0
  have HX1 := Lib.hid hx1; clear hx1
  have HX2 := Lib.hid hx2; clear hx2
  go_enter Try.func9, Try.ntmps9
  go_wp2_with fail
  refine (rvalid_any c s p _ (by omega) (by omega)).mono ?_
  rintro e w1 ⟨rfl, hb1⟩
  rw [HX0.out]
  have Kx1 : Hid (CellsAt w1 (w.heap.size) [.int .i64 c, .int .i64 s, .int .i64 p, .int .i64 a, .int .i64 b, .int .i64 n]) := CellsAt.below (CellsAt.new _ #[.int .i64 c, .int .i64 s, .int .i64 p, .int .i64 a, .int .i64 b, .int .i64 n] 32 _ (by simp)) hb1
  have HB1 : Hid (Below w.heap.size w w1) := bwStep (bwAlloc ((Below.refl _ _)) _) hb1
  clear hb1 
  have yx1 := Kx1.out.1
  have qx1_0 : w1.cell? ⟨w.heap.size, 0, none⟩ = some (.int .i64 c) := Kx1.out.2 0 (by simp)
  have qx1_1 : w1.cell? ⟨w.heap.size, 1, none⟩ = some (.int .i64 s) := Kx1.out.2 1 (by simp)
  have qx1_2 : w1.cell? ⟨w.heap.size, 2, none⟩ = some (.int .i64 p) := Kx1.out.2 2 (by simp)
  have qx1_3 : w1.cell? ⟨w.heap.size, 3, none⟩ = some (.int .i64 a) := Kx1.out.2 3 (by simp)
  have qx1_4 : w1.cell? ⟨w.heap.size, 4, none⟩ = some (.int .i64 b) := Kx1.out.2 4 (by simp)
  have qx1_5 : w1.cell? ⟨w.heap.size, 5, none⟩ = some (.int .i64 n) := Kx1.out.2 5 (by simp)
  go_wp2_with fail
  refine (is_any c s p a _).mono ?_
  rintro e w2 ⟨rfl, hb2⟩
  rw [HX1.out]
  have Kx2 : Hid (CellsAt w2 (w.heap.size) [.int .i64 c, .int .i64 s, .int .i64 p, .int .i64 a, .int .i64 b, .int .i64 n]) := CellsAt.below (Kx1.out) hb2
  have HB2 : Hid (Below w.heap.size w w2) := bwStep (HB1.out) hb2
  clear hb2 yx1 qx1_0 qx1_1 qx1_2 qx1_3 qx1_4 qx1_5
  have yx2 := Kx2.out.1
  have qx2_0 : w2.cell? ⟨w.heap.size, 0, none⟩ = some (.int .i64 c) := Kx2.out.2 0 (by simp)
  have qx2_1 : w2.cell? ⟨w.heap.size, 1, none⟩ = some (.int .i64 s) := Kx2.out.2 1 (by simp)
  have qx2_2 : w2.cell? ⟨w.heap.size, 2, none⟩ = some (.int .i64 p) := Kx2.out.2 2 (by simp)
  have qx2_3 : w2.cell? ⟨w.heap.size, 3, none⟩ = some (.int .i64 a) := Kx2.out.2 3 (by simp)
  have qx2_4 : w2.cell? ⟨w.heap.size, 4, none⟩ = some (.int .i64 b) := Kx2.out.2 4 (by simp)
  have qx2_5 : w2.cell? ⟨w.heap.size, 5, none⟩ = some (.int .i64 n) := Kx2.out.2 5 (by simp)
  go_wp2_with fail
  refine (is_any c s p b _).mono ?_
  rintro e w3 ⟨rfl, hb3⟩
  rw [HX2.out]
  have Kx3 : Hid (CellsAt w3 (w.heap.size) [.int .i64 c, .int .i64 s, .int .i64 p, .int .i64 a, .int .i64 b, .int .i64 n]) := CellsAt.below (Kx2.out) hb3
  have HB3 : Hid (Below w.heap.size w w3) := bwStep (HB2.out) hb3
  clear hb3 yx2 qx2_0 qx2_1 qx2_2 qx2_3 qx2_4 qx2_5
  have yx3 := Kx3.out.1
  have qx3_0 : w3.cell? ⟨w.heap.size, 0, none⟩ = some (.int .i64 c) := Kx3.out.2 0 (by simp)
  have qx3_1 : w3.cell? ⟨w.heap.size, 1, none⟩ = some (.int .i64 s) := Kx3.out.2 1 (by simp)
  have qx3_2 : w3.cell? ⟨w.heap.size, 2, none⟩ = some (.int .i64 p) := Kx3.out.2 2 (by simp)
  have qx3_3 : w3.cell? ⟨w.heap.size, 3, none⟩ = some (.int .i64 a) := Kx3.out.2 3 (by simp)
  have qx3_4 : w3.cell? ⟨w.heap.size, 4, none⟩ = some (.int .i64 b) := Kx3.out.2 4 (by simp)
  have qx3_5 : w3.cell? ⟨w.heap.size, 5, none⟩ = some (.int .i64 n) := Kx3.out.2 5 (by simp)
  go_wp2_with fail
  refine (alive_any _).mono ?_
  rintro e w4 ⟨rfl, hb4⟩
  have Kx4 : Hid (CellsAt w4 (w.heap.size) [.int .i64 c, .int .i64 s, .int .i64 p, .int .i64 a, .int .i64 b, .int .i64 n]) := CellsAt.below (Kx3.out) hb4
  have HB4 : Hid (Below w.heap.size w w4) := bwStep (HB3.out) hb4
  clear hb4 yx3 qx3_0 qx3_1 qx3_2 qx3_3 qx3_4 qx3_5
  have yx4 := Kx4.out.1
  have qx4_0 : w4.cell? ⟨w.heap.size, 0, none⟩ = some (.int .i64 c) := Kx4.out.2 0 (by simp)
  have qx4_1 : w4.cell? ⟨w.heap.size, 1, none⟩ = some (.int .i64 s) := Kx4.out.2 1 (by simp)
  have qx4_2 : w4.cell? ⟨w.heap.size, 2, none⟩ = some (.int .i64 p) := Kx4.out.2 2 (by simp)
  have qx4_3 : w4.cell? ⟨w.heap.size, 3, none⟩ = some (.int .i64 a) := Kx4.out.2 3 (by simp)
  have qx4_4 : w4.cell? ⟨w.heap.size, 4, none⟩ = some (.int .i64 b) := Kx4.out.2 4 (by simp)
  have qx4_5 : w4.cell? ⟨w.heap.size, 5, none⟩ = some (.int .i64 n) := Kx4.out.2 5 (by simp)
  go_wp2_with fail
  go_ret
  exact ⟨rfl, HB4.out⟩
set_option maxRecDepth 100000 in
set_option maxHeartbeats 4000000 in
theorem z4 (c s p a b n m : Int) (w : World) (bc : I64 c) (bs : I64 s) (bp : I64 p) (ba : I64 a) (bb : I64 b) (bn : I64 n) (bm : I64 m) (hx0 : vldB c s p = true) (hx1 : isB s a = true) (hx2 : isB s b = true) (hz0 : (a == 0) = false) (hz1 : -1099511627776 ≤ n) (hz2 : n ≤ 1099511627776) (hz3 : -1099511627776 ≤ m) (hz4 : 1099511627776 < m) :
    Calls Try.prog 9 #[.agg #[.int .i64 c, .int .i64 s, .int .i64 p, .int .i64 a, .int .i64 b, .int .i64 n], .int .i64 m] w fun e w' => e = .returned (.bool true) ∧ Below w.heap.size w w' := by
  have HX0 := Lib.hid hx0; clear hx0
  have HX1 := Lib.hid hx1; clear hx1
  have HX2 := Lib.hid hx2; clear hx2
  go_enter Try.func9, Try.ntmps9
  go_wp2_with fail
  refine (rvalid_any c s p _ (by omega) (by omega)).mono ?_
  rintro e w1 ⟨rfl, hb1⟩
  rw [HX0.out]
  have Kx1 : Hid (CellsAt w1 (w.heap.size) [.int .i64 c, .int .i64 s, .int .i64 p, .int .i64 a, .int .i64 b, .int .i64 n]) := CellsAt.below (CellsAt.new _ #[.int .i64 c, .int .i64 s, .int .i64 p, .int .i64 a, .int .i64 b, .int .i64 n] 32 _ (by simp)) hb1
  have HB1 : Hid (Below w.heap.size w w1) := bwStep (bwAlloc ((Below.refl _ _)) _) hb1
  clear hb1 
  have yx1 := Kx1.out.1
  have qx1_0 : w1.cell? ⟨w.heap.size, 0, none⟩ = some (.int .i64 c) := Kx1.out.2 0 (by simp)
  have qx1_1 : w1.cell? ⟨w.heap.size, 1, none⟩ = some (.int .i64 s) := Kx1.out.2 1 (by simp)
  have qx1_2 : w1.cell? ⟨w.heap.size, 2, none⟩ = some (.int .i64 p) := Kx1.out.2 2 (by simp)
  have qx1_3 : w1.cell? ⟨w.heap.size, 3, none⟩ = some (.int .i64 a) := Kx1.out.2 3 (by simp)
  have qx1_4 : w1.cell? ⟨w.heap.size, 4, none⟩ = some (.int .i64 b) := Kx1.out.2 4 (by simp)
  have qx1_5 : w1.cell? ⟨w.heap.size, 5, none⟩ = some (.int .i64 n) := Kx1.out.2 5 (by simp)
  go_wp2_with fail
  refine (is_any c s p a _).mono ?_
  rintro e w2 ⟨rfl, hb2⟩
  rw [HX1.out]
  have Kx2 : Hid (CellsAt w2 (w.heap.size) [.int .i64 c, .int .i64 s, .int .i64 p, .int .i64 a, .int .i64 b, .int .i64 n]) := CellsAt.below (Kx1.out) hb2
  have HB2 : Hid (Below w.heap.size w w2) := bwStep (HB1.out) hb2
  clear hb2 yx1 qx1_0 qx1_1 qx1_2 qx1_3 qx1_4 qx1_5
  have yx2 := Kx2.out.1
  have qx2_0 : w2.cell? ⟨w.heap.size, 0, none⟩ = some (.int .i64 c) := Kx2.out.2 0 (by simp)
  have qx2_1 : w2.cell? ⟨w.heap.size, 1, none⟩ = some (.int .i64 s) := Kx2.out.2 1 (by simp)
  have qx2_2 : w2.cell? ⟨w.heap.size, 2, none⟩ = some (.int .i64 p) := Kx2.out.2 2 (by simp)
  have qx2_3 : w2.cell? ⟨w.heap.size, 3, none⟩ = some (.int .i64 a) := Kx2.out.2 3 (by simp)
  have qx2_4 : w2.cell? ⟨w.heap.size, 4, none⟩ = some (.int .i64 b) := Kx2.out.2 4 (by simp)
  have qx2_5 : w2.cell? ⟨w.heap.size, 5, none⟩ = some (.int .i64 n) := Kx2.out.2 5 (by simp)
  go_wp2_with fail
  refine (is_any c s p b _).mono ?_
  rintro e w3 ⟨rfl, hb3⟩
  rw [HX2.out]
  have Kx3 : Hid (CellsAt w3 (w.heap.size) [.int .i64 c, .int .i64 s, .int .i64 p, .int .i64 a, .int .i64 b, .int .i64 n]) := CellsAt.below (Kx2.out) hb3
  have HB3 : Hid (Below w.heap.size w w3) := bwStep (HB2.out) hb3
  clear hb3 yx2 qx2_0 qx2_1 qx2_2 qx2_3 qx2_4 qx2_5
  have yx3 := Kx3.out.1
  have qx3_0 : w3.cell? ⟨w.heap.size, 0, none⟩ = some (.int .i64 c) := Kx3.out.2 0 (by simp)
  have qx3_1 : w3.cell? ⟨w.heap.size, 1, none⟩ = some (.int .i64 s) := Kx3.out.2 1 (by simp)
  have qx3_2 : w3.cell? ⟨w.heap.size, 2, none⟩ = some (.int .i64 p) := Kx3.out.2 2 (by simp)
  have qx3_3 : w3.cell? ⟨w.heap.size, 3, none⟩ = some (.int .i64 a) := Kx3.out.2 3 (by simp)
  have qx3_4 : w3.cell? ⟨w.heap.size, 4, none⟩ = some (.int .i64 b) := Kx3.out.2 4 (by simp)
  have qx3_5 : w3.cell? ⟨w.heap.size, 5, none⟩ = some (.int .i64 n) := Kx3.out.2 5 (by simp)
  go_wp2_with fail
  refine (alive_any _).mono ?_
  rintro e w4 ⟨rfl, hb4⟩
  have Kx4 : Hid (CellsAt w4 (w.heap.size) [.int .i64 c, .int .i64 s, .int .i64 p, .int .i64 a, .int .i64 b, .int .i64 n]) := CellsAt.below (Kx3.out) hb4
  have HB4 : Hid (Below w.heap.size w w4) := bwStep (HB3.out) hb4
  clear hb4 yx3 qx3_0 qx3_1 qx3_2 qx3_3 qx3_4 qx3_5
  have yx4 := Kx4.out.1
  have qx4_0 : w4.cell? ⟨w.heap.size, 0, none⟩ = some (.int .i64 c) := Kx4.out.2 0 (by simp)
  have qx4_1 : w4.cell? ⟨w.heap.size, 1, none⟩ = some (.int .i64 s) := Kx4.out.2 1 (by simp)
  have qx4_2 : w4.cell? ⟨w.heap.size, 2, none⟩ = some (.int .i64 p) := Kx4.out.2 2 (by simp)
  have qx4_3 : w4.cell? ⟨w.heap.size, 3, none⟩ = some (.int .i64 a) := Kx4.out.2 3 (by simp)
  have qx4_4 : w4.cell? ⟨w.heap.size, 4, none⟩ = some (.int .i64 b) := Kx4.out.2 4 (by simp)
  have qx4_5 : w4.cell? ⟨w.heap.size, 5, none⟩ = some (.int .i64 n) := Kx4.out.2 5 (by simp)
  go_wp2_with fail
  go_ret
  exact ⟨rfl, HB4.out⟩
theorem fpowI_lt {C S P : Nat} (h : VF C S P) (x n : Int) : fpowI S P x n < S := by
  have := h.two_le
  unfold fpowI
  split
  · split <;> omega
  · exact fpowN_lt h _ _
theorem zero_powN {C S P : Nat} (h : VF C S P) (k : Nat) (hk : k ≠ 0) : fpowN S P 0 k = 0 := by
  obtain ⟨j, rfl⟩ : ∃ j, k = j + 1 := ⟨k - 1, by omega⟩
  show fmulN S P (fpowN S P 0 j) 0 = 0
  exact mulN_zero h (fpowN_lt h _ _)
theorem fpowI_nat {C S P X : Nat} (h : VF C S P) (hx : X < S) (k : Nat) (hk : k ≠ 0) : fpowI S P X k = fpowN S P X k := by
  have h2 := h.two_le
  unfold fpowI
  by_cases h0 : (X : Int) = 0
  · rw [if_pos h0, if_neg (by omega)]
    have : X = 0 := by omega
    subst this; exact (zero_powN h k hk).symm
  · rw [if_neg h0, Int.toNat_natCast]
    have hf := powN_fermat h hx (by omega)
    rw [powN_mod h hx hf k]
    congr 1
    have e : ((k : Int) % ((S : Int) - 1)) = ((k % (S - 1) : Nat) : Int) := by rw [Int.natCast_emod]; congr 1; omega
    rw [e, Int.toNat_natCast]
theorem fpowI_add {C S P A : Nat} (h : VF C S P) (ha : A < S) (h0 : A ≠ 0) (n m : Int) : fmulN S P (fpowI S P A n) (fpowI S P A m) = fpowI S P A (n + m) := by
  have h1 : ¬ (A : Int) = 0 := by omega
  unfold fpowI
  rw [if_neg h1, if_neg h1, if_neg h1, Int.toNat_natCast]
  exact (powN_emod_add h ha h0 n m).symm
theorem fpowI_char {C S P A B : Nat} (h : VF C S P) (ha : A < S) (hb : B < S) : faddN S P (fpowI S P A C) (fpowI S P B C) = fpowI S P (faddN S P A B : Nat) C := by
  have hC : C ≠ 0 := by rcases h with ⟨_, h1, h2, _⟩ | ⟨d, _, _, _, _, h1, _⟩ <;> omega
  rw [fpowI_nat h ha C hC, fpowI_nat h hb C hC, fpowI_nat h (fadd_lt h A B ha hb) C hC, powN_char h ha hb]
theorem fpowI_ord {C S P A : Nat} (h : VF C S P) (ha : A < S) (h0 : A ≠ 0) : fpowI S P A (ordF S P A : Nat) = 1 := by
  have ho := ordF_dvd h ha h0
  rw [fpowI_nat h ha _ (by omega)]; exact ho.2.2.2
set_option maxRecDepth 100000 in
set_option maxHeartbeats 4000000 in
theorem yes (C S P A B : Nat) (n m : Int) (w : World) (hv : VF C S P) (ha : A < S) (hb : B < S) (ha0 : 0 < A) (hz1 : -1099511627776 ≤ n) (hz2 : n ≤ 1099511627776) (hz3 : -1099511627776 ≤ m) (hz4 : m ≤ 1099511627776) :
    Calls Try.prog 9 #[.agg #[.int .i64 C, .int .i64 S, .int .i64 P, .int .i64 A, .int .i64 B, .int .i64 n], .int .i64 m] w fun e w' => e = .returned (.bool true) ∧ Below w.heap.size w w' := by
  have hS := hv.le
  have hS2 := hv.two_le
  have hP : (P : Int) ≤ 9223372036854775807 := hv.pbd
  have hCle := hv.c_le
  have HX0 : Hid (vldB C S P = true) := vld_of hv
  have HX1 : Hid (isB S (A : Int) = true) := isB_of ha
  have HX2 : Hid (isB S (B : Int) = true) := isB_of hb
  have hz0 : (((A : Nat) : Int) == 0) = false := by rw [beq_eq_false_iff_ne]; omega
  have ho := ordF_dvd hv ha (by omega)
  have RO : Hid (ordR C S P A = (((ordF S P A : Nat) : Int), 0)) := by show _ = _; unfold ordR; rw [ok1_of hv ha, if_pos rfl, if_neg (by omega)]; simp
  have E0 : Hid (fpowI S P (A : Int) ((ordF S P A : Nat) : Int) = 1) := fpowI_ord hv ha (by omega)
  have hom : ((((S : Int) - 1) % ((ordF S P A : Nat) : Int)) != 0) = false := by
    rw [bne_eq_false_iff_eq]
    have e : ((S : Int) - 1) % ((ordF S P A : Nat) : Int) = (((S - 1) % ordF S P A : Nat) : Int) := by rw [Int.natCast_emod]; congr 1; omega
    rw [e, ho.1]; rfl
  have ho1 := ho.2.1; have ho2 := ho.2.2.1; clear ho
  have E4 := fpowI_add hv ha (by omega) n m
  have E8 := fpowI_char hv ha hb
  have l1 := fpowI_lt hv (A : Int) (n + m)
  have l2 := fpowI_lt hv (A : Int) n
  have l3 := fpowI_lt hv (A : Int) m
  have l5 := fadd_lt hv A B ha hb
  have l7 := fpowI_lt hv (A : Int) C
  have l8 := fpowI_lt hv (B : Int) C
  have l6 := fpowI_lt hv ((faddN S P A B : Nat) : Int) C
  have HV := Lib.hid hv; clear hv
  generalize ordF S P A = o at *
  generalize e1 : fpowI S P (A : Int) (n + m) = r1 at *
  have X1 := Lib.hid e1; clear e1
  generalize e2 : fpowI S P (A : Int) n = r2 at *
  have X2 := Lib.hid e2; clear e2
  generalize e3 : fpowI S P (A : Int) m = r3 at *
  have X3 := Lib.hid e3; clear e3
  generalize e5 : faddN S P A B = r5 at *
  have X5 : Hid (faddN S P (A : Int).toNat (B : Int).toNat = r5) := by show _ = _; rw [Int.toNat_natCast, Int.toNat_natCast]; exact e5
  clear e5
  generalize e6 : fpowI S P (r5 : Int) C = r6 at *
  have X6 := Lib.hid e6; clear e6
  generalize e7 : fpowI S P (A : Int) C = r7 at *
  have X7 := Lib.hid e7; clear e7
  generalize e8 : fpowI S P (B : Int) C = r8 at *
  have X8 := Lib.hid e8; clear e8
  have X4 : Hid (fmulN S P (r2 : Int).toNat (r3 : Int).toNat = r1) := by show _ = _; rw [Int.toNat_natCast, Int.toNat_natCast]; exact E4
  have X9 : Hid (faddN S P (r7 : Int).toNat (r8 : Int).toNat = r6) := by show _ = _; rw [Int.toNat_natCast, Int.toNat_natCast]; exact E8
  clear E4 E8
  go_enter Try.func9, Try.ntmps9
  go_wp2_with fail
  refine (rvalid_any C S P _ (by omega) hP).mono ?_
  rintro e w1 ⟨rfl, hb1⟩
  rw [HX0.out]
  have Kx1 : Hid (CellsAt w1 (w.heap.size) [.int .i64 C, .int .i64 S, .int .i64 P, .int .i64 A, .int .i64 B, .int .i64 n]) := CellsAt.below (CellsAt.new _ #[.int .i64 C, .int .i64 S, .int .i64 P, .int .i64 A, .int .i64 B, .int .i64 n] 32 _ (by simp)) hb1
  have HB1 : Hid (Below w.heap.size w w1) := bwStep (bwAlloc ((Below.refl _ _)) _) hb1
  clear hb1 
  have yx1 := Kx1.out.1
  have qx1_0 : w1.cell? ⟨w.heap.size, 0, none⟩ = some (.int .i64 C) := Kx1.out.2 0 (by simp)
  have qx1_1 : w1.cell? ⟨w.heap.size, 1, none⟩ = some (.int .i64 S) := Kx1.out.2 1 (by simp)
  have qx1_2 : w1.cell? ⟨w.heap.size, 2, none⟩ = some (.int .i64 P) := Kx1.out.2 2 (by simp)
  have qx1_3 : w1.cell? ⟨w.heap.size, 3, none⟩ = some (.int .i64 A) := Kx1.out.2 3 (by simp)
  have qx1_4 : w1.cell? ⟨w.heap.size, 4, none⟩ = some (.int .i64 B) := Kx1.out.2 4 (by simp)
  have qx1_5 : w1.cell? ⟨w.heap.size, 5, none⟩ = some (.int .i64 n) := Kx1.out.2 5 (by simp)
  go_wp2_with fail
  refine (is_any C S P A _).mono ?_
  rintro e w2 ⟨rfl, hb2⟩
  rw [HX1.out]
  have Kx2 : Hid (CellsAt w2 (w.heap.size) [.int .i64 C, .int .i64 S, .int .i64 P, .int .i64 A, .int .i64 B, .int .i64 n]) := CellsAt.below (Kx1.out) hb2
  have HB2 : Hid (Below w.heap.size w w2) := bwStep (HB1.out) hb2
  clear hb2 yx1 qx1_0 qx1_1 qx1_2 qx1_3 qx1_4 qx1_5
  have yx2 := Kx2.out.1
  have qx2_0 : w2.cell? ⟨w.heap.size, 0, none⟩ = some (.int .i64 C) := Kx2.out.2 0 (by simp)
  have qx2_1 : w2.cell? ⟨w.heap.size, 1, none⟩ = some (.int .i64 S) := Kx2.out.2 1 (by simp)
  have qx2_2 : w2.cell? ⟨w.heap.size, 2, none⟩ = some (.int .i64 P) := Kx2.out.2 2 (by simp)
  have qx2_3 : w2.cell? ⟨w.heap.size, 3, none⟩ = some (.int .i64 A) := Kx2.out.2 3 (by simp)
  have qx2_4 : w2.cell? ⟨w.heap.size, 4, none⟩ = some (.int .i64 B) := Kx2.out.2 4 (by simp)
  have qx2_5 : w2.cell? ⟨w.heap.size, 5, none⟩ = some (.int .i64 n) := Kx2.out.2 5 (by simp)
  go_wp2_with fail
  refine (is_any C S P B _).mono ?_
  rintro e w3 ⟨rfl, hb3⟩
  rw [HX2.out]
  have Kx3 : Hid (CellsAt w3 (w.heap.size) [.int .i64 C, .int .i64 S, .int .i64 P, .int .i64 A, .int .i64 B, .int .i64 n]) := CellsAt.below (Kx2.out) hb3
  have HB3 : Hid (Below w.heap.size w w3) := bwStep (HB2.out) hb3
  clear hb3 yx2 qx2_0 qx2_1 qx2_2 qx2_3 qx2_4 qx2_5
  have yx3 := Kx3.out.1
  have qx3_0 : w3.cell? ⟨w.heap.size, 0, none⟩ = some (.int .i64 C) := Kx3.out.2 0 (by simp)
  have qx3_1 : w3.cell? ⟨w.heap.size, 1, none⟩ = some (.int .i64 S) := Kx3.out.2 1 (by simp)
  have qx3_2 : w3.cell? ⟨w.heap.size, 2, none⟩ = some (.int .i64 P) := Kx3.out.2 2 (by simp)
  have qx3_3 : w3.cell? ⟨w.heap.size, 3, none⟩ = some (.int .i64 A) := Kx3.out.2 3 (by simp)
  have qx3_4 : w3.cell? ⟨w.heap.size, 4, none⟩ = some (.int .i64 B) := Kx3.out.2 4 (by simp)
  have qx3_5 : w3.cell? ⟨w.heap.size, 5, none⟩ = some (.int .i64 n) := Kx3.out.2 5 (by simp)
  go_wp2_with fail
  refine (Order_any C S P A _ (by omega) hP).mono ?_
  rintro e w4 ⟨rfl, hb4⟩
  rw [RO.out]
  have Kx4 : Hid (CellsAt w4 (w.heap.size) [.int .i64 C, .int .i64 S, .int .i64 P, .int .i64 A, .int .i64 B, .int .i64 n]) := CellsAt.below (CellsAt.alloc (Kx3.out) _) hb4
  have Kk4 : Hid (CellsAt w4 (w3.heap.size) [.int .i64 C, .int .i64 S, .int .i64 P, .bool true]) := CellsAt.below (CellsAt.new _ #[.int .i64 C, .int .i64 S, .int .i64 P, .bool true] 42 _ (by simp)) hb4
  have Zk34 : Hid (FrzAt w4 (w3.heap.size) 3) := FrzAt.below (FrzAt.new _ #[.int .i64 C, .int .i64 S, .int .i64 P, .bool true] 42 _ 3 (by simp)) hb4
  have HB4 : Hid (Below w.heap.size w w4) := bwStep (bwAlloc (HB3.out) _) hb4
  clear hb4 yx3 qx3_0 qx3_1 qx3_2 qx3_3 qx3_4 qx3_5
  have yx4 := Kx4.out.1
  have qx4_0 : w4.cell? ⟨w.heap.size, 0, none⟩ = some (.int .i64 C) := Kx4.out.2 0 (by simp)
  have qx4_1 : w4.cell? ⟨w.heap.size, 1, none⟩ = some (.int .i64 S) := Kx4.out.2 1 (by simp)
  have qx4_2 : w4.cell? ⟨w.heap.size, 2, none⟩ = some (.int .i64 P) := Kx4.out.2 2 (by simp)
  have qx4_3 : w4.cell? ⟨w.heap.size, 3, none⟩ = some (.int .i64 A) := Kx4.out.2 3 (by simp)
  have qx4_4 : w4.cell? ⟨w.heap.size, 4, none⟩ = some (.int .i64 B) := Kx4.out.2 4 (by simp)
  have qx4_5 : w4.cell? ⟨w.heap.size, 5, none⟩ = some (.int .i64 n) := Kx4.out.2 5 (by simp)
  have yk4 := Kk4.out.1
  have qk4_0 : w4.cell? ⟨w3.heap.size, 0, none⟩ = some (.int .i64 C) := Kk4.out.2 0 (by simp)
  have qk4_1 : w4.cell? ⟨w3.heap.size, 1, none⟩ = some (.int .i64 S) := Kk4.out.2 1 (by simp)
  have qk4_2 : w4.cell? ⟨w3.heap.size, 2, none⟩ = some (.int .i64 P) := Kk4.out.2 2 (by simp)
  have qk4_3 : w4.cell? ⟨w3.heap.size, 3, none⟩ = some (.bool true) := Kk4.out.2 3 (by simp)
  go_wp2_with fail
  refine (cpow_any C S P A o _ _ HV.out (by omega) (by omega) (fun h => by omega) (by omega) (by omega) Kk4.out Zk34.out).mono ?_
  rintro e w5 ⟨rfl, hb5⟩
  rw [E0.out]
  have Kx5 : Hid (CellsAt w5 (w.heap.size) [.int .i64 C, .int .i64 S, .int .i64 P, .int .i64 A, .int .i64 B, .int .i64 n]) := CellsAt.below (Kx4.out) hb5
  have Kk5 : Hid (CellsAt w5 (w3.heap.size) [.int .i64 C, .int .i64 S, .int .i64 P, .bool true]) := CellsAt.below (Kk4.out) hb5
  have Zk35 : Hid (FrzAt w5 (w3.heap.size) 3) := FrzAt.below (Zk34.out) hb5
  have HB5 : Hid (Below w.heap.size w w5) := bwStep (HB4.out) hb5
  clear hb5 yx4 qx4_0 qx4_1 qx4_2 qx4_3 qx4_4 qx4_5 yk4 qk4_0 qk4_1 qk4_2 qk4_3
  have yx5 := Kx5.out.1
  have qx5_0 : w5.cell? ⟨w.heap.size, 0, none⟩ = some (.int .i64 C) := Kx5.out.2 0 (by simp)
  have qx5_1 : w5.cell? ⟨w.heap.size, 1, none⟩ = some (.int .i64 S) := Kx5.out.2 1 (by simp)
  have qx5_2 : w5.cell? ⟨w.heap.size, 2, none⟩ = some (.int .i64 P) := Kx5.out.2 2 (by simp)
  have qx5_3 : w5.cell? ⟨w.heap.size, 3, none⟩ = some (.int .i64 A) := Kx5.out.2 3 (by simp)
  have qx5_4 : w5.cell? ⟨w.heap.size, 4, none⟩ = some (.int .i64 B) := Kx5.out.2 4 (by simp)
  have qx5_5 : w5.cell? ⟨w.heap.size, 5, none⟩ = some (.int .i64 n) := Kx5.out.2 5 (by simp)
  have yk5 := Kk5.out.1
  have qk5_0 : w5.cell? ⟨w3.heap.size, 0, none⟩ = some (.int .i64 C) := Kk5.out.2 0 (by simp)
  have qk5_1 : w5.cell? ⟨w3.heap.size, 1, none⟩ = some (.int .i64 S) := Kk5.out.2 1 (by simp)
  have qk5_2 : w5.cell? ⟨w3.heap.size, 2, none⟩ = some (.int .i64 P) := Kk5.out.2 2 (by simp)
  have qk5_3 : w5.cell? ⟨w3.heap.size, 3, none⟩ = some (.bool true) := Kk5.out.2 3 (by simp)
  go_wp2_with fail
  have hwr : IntKind.i64.wrap (n + m) = n + m := IntWalk.i64_in _ (by omega)
  have mk : ∀ W : World, Keep w [(w.heap.size, [.int .i64 C, .int .i64 S, .int .i64 P, .int .i64 A, .int .i64 B, .int .i64 n]), (w3.heap.size, [.int .i64 C, .int .i64 S, .int .i64 P, .bool true])] [(w3.heap.size, 3)] W → (W.cell? ⟨w.heap.size, 0, none⟩ = some (.int .i64 C) ∧ W.cell? ⟨w.heap.size, 1, none⟩ = some (.int .i64 S) ∧ W.cell? ⟨w.heap.size, 2, none⟩ = some (.int .i64 P) ∧ W.cell? ⟨w.heap.size, 3, none⟩ = some (.int .i64 A) ∧ W.cell? ⟨w.heap.size, 4, none⟩ = some (.int .i64 B) ∧ W.cell? ⟨w.heap.size, 5, none⟩ = some (.int .i64 n) ∧ W.cell? ⟨w3.heap.size, 0, none⟩ = some (.int .i64 C) ∧ W.cell? ⟨w3.heap.size, 1, none⟩ = some (.int .i64 S) ∧ W.cell? ⟨w3.heap.size, 2, none⟩ = some (.int .i64 P) ∧ W.cell? ⟨w3.heap.size, 3, none⟩ = some (.bool true)) ∧ Keep w [(w.heap.size, [.int .i64 C, .int .i64 S, .int .i64 P, .int .i64 A, .int .i64 B, .int .i64 n]), (w3.heap.size, [.int .i64 C, .int .i64 S, .int .i64 P, .bool true])] [(w3.heap.size, 3)] W := fun W h => ⟨⟨(h.1 _ List.mem_cons_self : CellsAt W (w.heap.size) [.int .i64 C, .int .i64 S, .int .i64 P, .int .i64 A, .int .i64 B, .int .i64 n]).2 0 (by simp), (h.1 _ List.mem_cons_self : CellsAt W (w.heap.size) [.int .i64 C, .int .i64 S, .int .i64 P, .int .i64 A, .int .i64 B, .int .i64 n]).2 1 (by simp), (h.1 _ List.mem_cons_self : CellsAt W (w.heap.size) [.int .i64 C, .int .i64 S, .int .i64 P, .int .i64 A, .int .i64 B, .int .i64 n]).2 2 (by simp), (h.1 _ List.mem_cons_self : CellsAt W (w.heap.size) [.int .i64 C, .int .i64 S, .int .i64 P, .int .i64 A, .int .i64 B, .int .i64 n]).2 3 (by simp), (h.1 _ List.mem_cons_self : CellsAt W (w.heap.size) [.int .i64 C, .int .i64 S, .int .i64 P, .int .i64 A, .int .i64 B, .int .i64 n]).2 4 (by simp), (h.1 _ List.mem_cons_self : CellsAt W (w.heap.size) [.int .i64 C, .int .i64 S, .int .i64 P, .int .i64 A, .int .i64 B, .int .i64 n]).2 5 (by simp), (h.1 _ (List.mem_cons_of_mem _ List.mem_cons_self) : CellsAt W (w3.heap.size) [.int .i64 C, .int .i64 S, .int .i64 P, .bool true]).2 0 (by simp), (h.1 _ (List.mem_cons_of_mem _ List.mem_cons_self) : CellsAt W (w3.heap.size) [.int .i64 C, .int .i64 S, .int .i64 P, .bool true]).2 1 (by simp), (h.1 _ (List.mem_cons_of_mem _ List.mem_cons_self) : CellsAt W (w3.heap.size) [.int .i64 C, .int .i64 S, .int .i64 P, .bool true]).2 2 (by simp), (h.1 _ (List.mem_cons_of_mem _ List.mem_cons_self) : CellsAt W (w3.heap.size) [.int .i64 C, .int .i64 S, .int .i64 P, .bool true]).2 3 (by simp)⟩, h⟩
  go_region_held3 (fun w' => (w'.cell? ⟨w.heap.size, 0, none⟩ = some (.int .i64 C) ∧ w'.cell? ⟨w.heap.size, 1, none⟩ = some (.int .i64 S) ∧ w'.cell? ⟨w.heap.size, 2, none⟩ = some (.int .i64 P) ∧ w'.cell? ⟨w.heap.size, 3, none⟩ = some (.int .i64 A) ∧ w'.cell? ⟨w.heap.size, 4, none⟩ = some (.int .i64 B) ∧ w'.cell? ⟨w.heap.size, 5, none⟩ = some (.int .i64 n) ∧ w'.cell? ⟨w3.heap.size, 0, none⟩ = some (.int .i64 C) ∧ w'.cell? ⟨w3.heap.size, 1, none⟩ = some (.int .i64 S) ∧ w'.cell? ⟨w3.heap.size, 2, none⟩ = some (.int .i64 P) ∧ w'.cell? ⟨w3.heap.size, 3, none⟩ = some (.bool true)) ∧ Keep w [(w.heap.size, [.int .i64 C, .int .i64 S, .int .i64 P, .int .i64 A, .int .i64 B, .int .i64 n]), (w3.heap.size, [.int .i64 C, .int .i64 S, .int .i64 P, .bool true])] [(w3.heap.size, 3)] w') (first | exact mk _ (Keep.drew ⟨(cells_cons (Kx5.out) (cells_cons (Kk5.out) (fun x hx => by cases hx))), (frzs_cons (Zk35.out) (fun x hx => by cases hx)), HB5.out⟩) | exact mk _ (by assumption)) (first | (go_at_call 40; refine (cpow_any C S P _ _ _ _ HV.out (by omega) (by omega) (fun h => by omega) (by omega) (by omega) (Keep.c (b := w3.heap.size) (vs := calcV C S P) (by assumption) (List.mem_cons_of_mem _ List.mem_cons_self)) (Keep.f (b := w3.heap.size) (i := 3) (by assumption) List.mem_cons_self)).mono ?_; rintro e v1 ⟨rfl, hv1⟩; (first | rw [X1.out] | rw [X2.out] | rw [X3.out] | rw [X6.out] | rw [X7.out] | rw [X8.out]); have hk1 := Keep.step (And.right (by assumption)) hv1) | (go_at_call 36; refine (cmul_any C S P _ _ _ _ HV.out (by omega) (by omega) (by omega) (by omega) (Keep.c (b := w3.heap.size) (vs := calcV C S P) (by assumption) (List.mem_cons_of_mem _ List.mem_cons_self)) (Keep.f (b := w3.heap.size) (i := 3) (by assumption) List.mem_cons_self)).mono ?_; rintro e v1 ⟨rfl, hv1⟩; rw [X4.out]; have hk1 := Keep.step (And.right (by assumption)) hv1) | (go_at_call 35; refine (cadd_any C S P _ _ _ _ HV.out (by omega) (by omega) (by omega) (by omega) (Keep.c (b := w3.heap.size) (vs := calcV C S P) (by assumption) (List.mem_cons_of_mem _ List.mem_cons_self)) (Keep.f (b := w3.heap.size) (i := 3) (by assumption) List.mem_cons_self)).mono ?_; rintro e v1 ⟨rfl, hv1⟩; (first | rw [X5.out] | rw [X9.out]); have hk1 := Keep.step (And.right (by assumption)) hv1) | (go_at_call 16; refine (alive_any _).mono ?_; rintro e v1 ⟨rfl, hv1⟩; have hk1 := Keep.step (And.right (by assumption)) hv1))
  all_goals go_wp2
  all_goals go_ret
  all_goals exact ⟨rfl, (And.right (by assumption) : Keep w _ _ _).2.2⟩
theorem law_walk (c s p a b n m : Int) (bc : I64 c) (bs : I64 s) (bp : I64 p) (ba : I64 a) (bb : I64 b) (bn : I64 n) (bm : I64 m) (w : World) :
    Calls Try.prog 9 #[.agg #[.int .i64 c, .int .i64 s, .int .i64 p, .int .i64 a, .int .i64 b, .int .i64 n], .int .i64 m] w fun e w' => e = .returned (.bool true) ∧ Below w.heap.size w w' := by
  cases hx0 : vldB c s p
  · exact no0 c s p a b n m w bc bs bp ba bb bn bm hx0
  cases hx1 : isB s a
  · exact no1 c s p a b n m w bc bs bp ba bb bn bm hx0 hx1
  cases hx2 : isB s b
  · exact no2 c s p a b n m w bc bs bp ba bb bn bm hx0 hx1 hx2
  by_cases h0 : a = 0
  · exact z0 c s p a b n m w bc bs bp ba bb bn bm hx0 hx1 hx2 (beq_iff_eq.2 h0)
  by_cases h1 : n < -1099511627776
  · exact z1 c s p a b n m w bc bs bp ba bb bn bm hx0 hx1 hx2 (beq_false_of_ne h0) h1
  by_cases h2 : 1099511627776 < n
  · exact z2 c s p a b n m w bc bs bp ba bb bn bm hx0 hx1 hx2 (beq_false_of_ne h0) (by omega) h2
  by_cases h3 : m < -1099511627776
  · exact z3 c s p a b n m w bc bs bp ba bb bn bm hx0 hx1 hx2 (beq_false_of_ne h0) (by omega) (by omega) h3
  by_cases h4 : 1099511627776 < m
  · exact z4 c s p a b n m w bc bs bp ba bb bn bm hx0 hx1 hx2 (beq_false_of_ne h0) (by omega) (by omega) (by omega) h4
  obtain ⟨C, S, P, A, B, rfl, rfl, rfl, rfl, rfl, ha, hb, hv⟩ := ok2_nat (c := c) (s := s) (p := p) (a := a) (b := b) (by unfold ok2; rw [hx0, hx1, hx2]; rfl)
  exact yes C S P A B n m w hv ha hb (by omega) (by omega) (by omega) (by omega) (by omega)
end Go.Proofs.Ytefnflmabdpnbaa.galoisExponents
