import Derived.Test.YtefnflmabdpnbaaAlive
namespace Go.Proofs.Ytefnflmabdpnbaa.galoisLogs
open Go.RowKit
set_option linter.unusedVariables false
abbrev I64 (a : Int) : Prop := -9223372036854775808 ≤ a ∧ a ≤ 9223372036854775807
set_option maxRecDepth 100000 in
set_option maxHeartbeats 4000000 in
theorem law_walk (c s p a b n : Int) (bc : I64 c) (bs : I64 s) (bp : I64 p) (ba : I64 a) (bb : I64 b) (bn : I64 n) (w : World) :
    Calls Try.prog 5 #[.agg #[.int .i64 c, .int .i64 s, .int .i64 p, .int .i64 a, .int .i64 b, .int .i64 n]] w fun e w' => e = .returned (.bool true) ∧ Below w.heap.size w w' := by
  go_enter Try.func5, Try.ntmps5
  go_wp2_with fail
  refine (Order_any c s p a _ (by omega) (by omega)).mono ?_
  rintro e w1 ⟨rfl, hb1⟩
  have Kx1 : Hid (CellsAt w1 (w.heap.size) [.int .i64 c, .int .i64 s, .int .i64 p, .int .i64 a, .int .i64 b, .int .i64 n]) := CellsAt.below (CellsAt.new _ #[.int .i64 c, .int .i64 s, .int .i64 p, .int .i64 a, .int .i64 b, .int .i64 n] 32 _ (by simp)) hb1
  have HB1 : Hid (Below w.heap.size w w1) := bwStep (bwAlloc ((Below.refl _ _)) _) hb1
  clear hb1 
  have yx1 := Kx1.out.1
  have qx1_0 : w1.cell? ⟨w.heap.size, 0, none⟩ = some (.int .i64 c) := Kx1.out.2 0 (by simp)
  have qx1_1 : w1.cell? ⟨w.heap.size, 1, none⟩ = some (.int .i64 s) := Kx1.out.2 1 (by simp)
  have qx1_2 : w1.cell? ⟨w.heap.size, 2, none⟩ = some (.int .i64 p) := Kx1.out.2 2 (by simp)
  have qx1_3 : w1.cell? ⟨w.heap.size, 3, none⟩ = some (.int .i64 a) := Kx1.out.2 3 (by simp)
  have qx1_4 : w1.cell? ⟨w.heap.size, 4, none⟩ = some (.int .i64 b) := Kx1.out.2 4 (by simp)
  have qx1_5 : w1.cell? ⟨w.heap.size, 5, none⟩ = some (.int .i64 n) := Kx1.out.2 5 (by simp)
  go_wp2_with fail
  refine (rOrder_any c s p a _ (by omega) (by omega)).mono ?_
  rintro e w2 ⟨rfl, hb2⟩
  have Kx2 : Hid (CellsAt w2 (w.heap.size) [.int .i64 c, .int .i64 s, .int .i64 p, .int .i64 a, .int .i64 b, .int .i64 n]) := CellsAt.below (Kx1.out) hb2
  have HB2 : Hid (Below w.heap.size w w2) := bwStep (HB1.out) hb2
  clear hb2 yx1 qx1_0 qx1_1 qx1_2 qx1_3 qx1_4 qx1_5
  have yx2 := Kx2.out.1
  have qx2_0 : w2.cell? ⟨w.heap.size, 0, none⟩ = some (.int .i64 c) := Kx2.out.2 0 (by simp)
  have qx2_1 : w2.cell? ⟨w.heap.size, 1, none⟩ = some (.int .i64 s) := Kx2.out.2 1 (by simp)
  have qx2_2 : w2.cell? ⟨w.heap.size, 2, none⟩ = some (.int .i64 p) := Kx2.out.2 2 (by simp)
  have qx2_3 : w2.cell? ⟨w.heap.size, 3, none⟩ = some (.int .i64 a) := Kx2.out.2 3 (by simp)
  have qx2_4 : w2.cell? ⟨w.heap.size, 4, none⟩ = some (.int .i64 b) := Kx2.out.2 4 (by simp)
  have qx2_5 : w2.cell? ⟨w.heap.size, 5, none⟩ = some (.int .i64 n) := Kx2.out.2 5 (by simp)
  go_wp2_with fail
  refine (Generator_any c s p _ (by omega) (by omega)).mono ?_
  rintro e w3 ⟨rfl, hb3⟩
  have Kx3 : Hid (CellsAt w3 (w.heap.size) [.int .i64 c, .int .i64 s, .int .i64 p, .int .i64 a, .int .i64 b, .int .i64 n]) := CellsAt.below (Kx2.out) hb3
  have HB3 : Hid (Below w.heap.size w w3) := bwStep (HB2.out) hb3
  clear hb3 yx2 qx2_0 qx2_1 qx2_2 qx2_3 qx2_4 qx2_5
  have yx3 := Kx3.out.1
  have qx3_0 : w3.cell? ⟨w.heap.size, 0, none⟩ = some (.int .i64 c) := Kx3.out.2 0 (by simp)
  have qx3_1 : w3.cell? ⟨w.heap.size, 1, none⟩ = some (.int .i64 s) := Kx3.out.2 1 (by simp)
  have qx3_2 : w3.cell? ⟨w.heap.size, 2, none⟩ = some (.int .i64 p) := Kx3.out.2 2 (by simp)
  have qx3_3 : w3.cell? ⟨w.heap.size, 3, none⟩ = some (.int .i64 a) := Kx3.out.2 3 (by simp)
  have qx3_4 : w3.cell? ⟨w.heap.size, 4, none⟩ = some (.int .i64 b) := Kx3.out.2 4 (by simp)
  have qx3_5 : w3.cell? ⟨w.heap.size, 5, none⟩ = some (.int .i64 n) := Kx3.out.2 5 (by simp)
  go_wp2_with fail
  refine (rGenerator_any c s p _ (by omega) (by omega)).mono ?_
  rintro e w4 ⟨rfl, hb4⟩
  have Kx4 : Hid (CellsAt w4 (w.heap.size) [.int .i64 c, .int .i64 s, .int .i64 p, .int .i64 a, .int .i64 b, .int .i64 n]) := CellsAt.below (Kx3.out) hb4
  have HB4 : Hid (Below w.heap.size w w4) := bwStep (HB3.out) hb4
  clear hb4 yx3 qx3_0 qx3_1 qx3_2 qx3_3 qx3_4 qx3_5
  have yx4 := Kx4.out.1
  have qx4_0 : w4.cell? ⟨w.heap.size, 0, none⟩ = some (.int .i64 c) := Kx4.out.2 0 (by simp)
  have qx4_1 : w4.cell? ⟨w.heap.size, 1, none⟩ = some (.int .i64 s) := Kx4.out.2 1 (by simp)
  have qx4_2 : w4.cell? ⟨w.heap.size, 2, none⟩ = some (.int .i64 p) := Kx4.out.2 2 (by simp)
  have qx4_3 : w4.cell? ⟨w.heap.size, 3, none⟩ = some (.int .i64 a) := Kx4.out.2 3 (by simp)
  have qx4_4 : w4.cell? ⟨w.heap.size, 4, none⟩ = some (.int .i64 b) := Kx4.out.2 4 (by simp)
  have qx4_5 : w4.cell? ⟨w.heap.size, 5, none⟩ = some (.int .i64 n) := Kx4.out.2 5 (by simp)
  go_wp2_with fail
  refine (Log_any c s p a _ (by omega) (by omega)).mono ?_
  rintro e w5 ⟨rfl, hb5⟩
  have Kx5 : Hid (CellsAt w5 (w.heap.size) [.int .i64 c, .int .i64 s, .int .i64 p, .int .i64 a, .int .i64 b, .int .i64 n]) := CellsAt.below (Kx4.out) hb5
  have HB5 : Hid (Below w.heap.size w w5) := bwStep (HB4.out) hb5
  clear hb5 yx4 qx4_0 qx4_1 qx4_2 qx4_3 qx4_4 qx4_5
  have yx5 := Kx5.out.1
  have qx5_0 : w5.cell? ⟨w.heap.size, 0, none⟩ = some (.int .i64 c) := Kx5.out.2 0 (by simp)
  have qx5_1 : w5.cell? ⟨w.heap.size, 1, none⟩ = some (.int .i64 s) := Kx5.out.2 1 (by simp)
  have qx5_2 : w5.cell? ⟨w.heap.size, 2, none⟩ = some (.int .i64 p) := Kx5.out.2 2 (by simp)
  have qx5_3 : w5.cell? ⟨w.heap.size, 3, none⟩ = some (.int .i64 a) := Kx5.out.2 3 (by simp)
  have qx5_4 : w5.cell? ⟨w.heap.size, 4, none⟩ = some (.int .i64 b) := Kx5.out.2 4 (by simp)
  have qx5_5 : w5.cell? ⟨w.heap.size, 5, none⟩ = some (.int .i64 n) := Kx5.out.2 5 (by simp)
  go_wp2_with fail
  refine (rLog_any c s p a _ (by omega) (by omega)).mono ?_
  rintro e w6 ⟨rfl, hb6⟩
  have Kx6 : Hid (CellsAt w6 (w.heap.size) [.int .i64 c, .int .i64 s, .int .i64 p, .int .i64 a, .int .i64 b, .int .i64 n]) := CellsAt.below (Kx5.out) hb6
  have HB6 : Hid (Below w.heap.size w w6) := bwStep (HB5.out) hb6
  clear hb6 yx5 qx5_0 qx5_1 qx5_2 qx5_3 qx5_4 qx5_5
  have yx6 := Kx6.out.1
  have qx6_0 : w6.cell? ⟨w.heap.size, 0, none⟩ = some (.int .i64 c) := Kx6.out.2 0 (by simp)
  have qx6_1 : w6.cell? ⟨w.heap.size, 1, none⟩ = some (.int .i64 s) := Kx6.out.2 1 (by simp)
  have qx6_2 : w6.cell? ⟨w.heap.size, 2, none⟩ = some (.int .i64 p) := Kx6.out.2 2 (by simp)
  have qx6_3 : w6.cell? ⟨w.heap.size, 3, none⟩ = some (.int .i64 a) := Kx6.out.2 3 (by simp)
  have qx6_4 : w6.cell? ⟨w.heap.size, 4, none⟩ = some (.int .i64 b) := Kx6.out.2 4 (by simp)
  have qx6_5 : w6.cell? ⟨w.heap.size, 5, none⟩ = some (.int .i64 n) := Kx6.out.2 5 (by simp)
  go_wp2_with fail
  refine (alive_any _).mono ?_
  rintro e w7 ⟨rfl, hb7⟩
  have Kx7 : Hid (CellsAt w7 (w.heap.size) [.int .i64 c, .int .i64 s, .int .i64 p, .int .i64 a, .int .i64 b, .int .i64 n]) := CellsAt.below (Kx6.out) hb7
  have HB7 : Hid (Below w.heap.size w w7) := bwStep (HB6.out) hb7
  clear hb7 yx6 qx6_0 qx6_1 qx6_2 qx6_3 qx6_4 qx6_5
  have yx7 := Kx7.out.1
  have qx7_0 : w7.cell? ⟨w.heap.size, 0, none⟩ = some (.int .i64 c) := Kx7.out.2 0 (by simp)
  have qx7_1 : w7.cell? ⟨w.heap.size, 1, none⟩ = some (.int .i64 s) := Kx7.out.2 1 (by simp)
  have qx7_2 : w7.cell? ⟨w.heap.size, 2, none⟩ = some (.int .i64 p) := Kx7.out.2 2 (by simp)
  have qx7_3 : w7.cell? ⟨w.heap.size, 3, none⟩ = some (.int .i64 a) := Kx7.out.2 3 (by simp)
  have qx7_4 : w7.cell? ⟨w.heap.size, 4, none⟩ = some (.int .i64 b) := Kx7.out.2 4 (by simp)
  have qx7_5 : w7.cell? ⟨w.heap.size, 5, none⟩ = some (.int .i64 n) := Kx7.out.2 5 (by simp)
  go_wp2_with fail
  go_ret
  exact ⟨rfl, HB7.out⟩
end Go.Proofs.Ytefnflmabdpnbaa.galoisLogs
