import Derived.Test.YtefnflmabdpnbaaCalc
import Derived.Deep.QuietTactic
import Derived.BigQuiet
namespace Go.Proofs.Ytefnflmabdpnbaa.galoisField
open Go.RowKit
set_option linter.unusedVariables false
abbrev I64 (a : Int) : Prop := -9223372036854775808 ≤ a ∧ a ≤ 9223372036854775807
set_option maxRecDepth 100000 in
set_option maxHeartbeats 4000000 in
theorem no0 (c s p x y z t : Int) (w : World) (bc : I64 c) (bs : I64 s) (bp : I64 p) (hx0 : vldB c s p = false) :
    Calls Try.prog 7 #[.agg #[.int .i64 c, .int .i64 s, .int .i64 p], .agg #[.int .i64 x, .int .i64 y], .agg #[.int .i64 z, .int .i64 t]] w fun e w' => e = .returned (.bool true) ∧ Below w.heap.size w w' := by
  have HX0 := Lib.hid hx0; clear hx0
  go_enter Try.func7, Try.ntmps7
  go_wp2_with fail
  refine (rvalid_any c s p _ (by omega) (by omega)).mono ?_
  rintro e w1 ⟨rfl, hb1⟩
  rw [HX0.out]
  have Kf1 : Hid (CellsAt w1 (w.heap.size) [.int .i64 c, .int .i64 s, .int .i64 p]) := CellsAt.below (CellsAt.alloc (CellsAt.alloc (CellsAt.new _ #[.int .i64 c, .int .i64 s, .int .i64 p] 23 _ (by simp)) _) _) hb1
  have Ka1 : Hid (CellsAt w1 (w.heap.size + 1) [.int .i64 x, .int .i64 y]) := CellsAt.below (CellsAt.alloc (CellsAt.new _ #[.int .i64 x, .int .i64 y] 39 _ (by simp)) _) hb1
  have Kb1 : Hid (CellsAt w1 (w.heap.size + 2) [.int .i64 z, .int .i64 t]) := CellsAt.below (CellsAt.new _ #[.int .i64 z, .int .i64 t] 39 _ (by simp)) hb1
  have HB1 : Hid (Below w.heap.size w w1) := bwStep (bwAlloc (bwAlloc (bwAlloc ((Below.refl _ _)) _) _) _) hb1
  clear hb1 
  have yf1 := Kf1.out.1
  have qf1_0 : w1.cell? ⟨w.heap.size, 0, none⟩ = some (.int .i64 c) := Kf1.out.2 0 (by simp)
  have qf1_1 : w1.cell? ⟨w.heap.size, 1, none⟩ = some (.int .i64 s) := Kf1.out.2 1 (by simp)
  have qf1_2 : w1.cell? ⟨w.heap.size, 2, none⟩ = some (.int .i64 p) := Kf1.out.2 2 (by simp)
  have ya1 := Ka1.out.1
  have qa1_0 : w1.cell? ⟨w.heap.size + 1, 0, none⟩ = some (.int .i64 x) := Ka1.out.2 0 (by simp)
  have qa1_1 : w1.cell? ⟨w.heap.size + 1, 1, none⟩ = some (.int .i64 y) := Ka1.out.2 1 (by simp)
  have yb1 := Kb1.out.1
  have qb1_0 : w1.cell? ⟨w.heap.size + 2, 0, none⟩ = some (.int .i64 z) := Kb1.out.2 0 (by simp)
  have qb1_1 : w1.cell? ⟨w.heap.size + 2, 1, none⟩ = some (.int .i64 t) := Kb1.out.2 1 (by simp)
  go_wp2_with fail
  refine (alive_any _).mono ?_
  rintro e w2 ⟨rfl, hb2⟩
  have Kf2 : Hid (CellsAt w2 (w.heap.size) [.int .i64 c, .int .i64 s, .int .i64 p]) := CellsAt.below (Kf1.out) hb2
  have Ka2 : Hid (CellsAt w2 (w.heap.size + 1) [.int .i64 x, .int .i64 y]) := CellsAt.below (Ka1.out) hb2
  have Kb2 : Hid (CellsAt w2 (w.heap.size + 2) [.int .i64 z, .int .i64 t]) := CellsAt.below (Kb1.out) hb2
  have HB2 : Hid (Below w.heap.size w w2) := bwStep (HB1.out) hb2
  clear hb2 yf1 qf1_0 qf1_1 qf1_2 ya1 qa1_0 qa1_1 yb1 qb1_0 qb1_1
  have yf2 := Kf2.out.1
  have qf2_0 : w2.cell? ⟨w.heap.size, 0, none⟩ = some (.int .i64 c) := Kf2.out.2 0 (by simp)
  have qf2_1 : w2.cell? ⟨w.heap.size, 1, none⟩ = some (.int .i64 s) := Kf2.out.2 1 (by simp)
  have qf2_2 : w2.cell? ⟨w.heap.size, 2, none⟩ = some (.int .i64 p) := Kf2.out.2 2 (by simp)
  have ya2 := Ka2.out.1
  have qa2_0 : w2.cell? ⟨w.heap.size + 1, 0, none⟩ = some (.int .i64 x) := Ka2.out.2 0 (by simp)
  have qa2_1 : w2.cell? ⟨w.heap.size + 1, 1, none⟩ = some (.int .i64 y) := Ka2.out.2 1 (by simp)
  have yb2 := Kb2.out.1
  have qb2_0 : w2.cell? ⟨w.heap.size + 2, 0, none⟩ = some (.int .i64 z) := Kb2.out.2 0 (by simp)
  have qb2_1 : w2.cell? ⟨w.heap.size + 2, 1, none⟩ = some (.int .i64 t) := Kb2.out.2 1 (by simp)
  go_wp2_with fail
  go_ret
  exact ⟨rfl, HB2.out⟩
set_option maxRecDepth 100000 in
set_option maxHeartbeats 4000000 in
theorem no1 (c s p x y z t : Int) (w : World) (bc : I64 c) (bs : I64 s) (bp : I64 p) (hx0 : vldB c s p = true) (hx1 : isB s x = false) :
    Calls Try.prog 7 #[.agg #[.int .i64 c, .int .i64 s, .int .i64 p], .agg #[.int .i64 x, .int .i64 y], .agg #[.int .i64 z, .int .i64 t]] w fun e w' => e = .returned (.bool true) ∧ Below w.heap.size w w' := by
  have HX0 := Lib.hid hx0; clear hx0
  have HX1 := Lib.hid hx1; clear hx1
  go_enter Try.func7, Try.ntmps7
  go_wp2_with fail
  refine (rvalid_any c s p _ (by omega) (by omega)).mono ?_
  rintro e w1 ⟨rfl, hb1⟩
  rw [HX0.out]
  have Kf1 : Hid (CellsAt w1 (w.heap.size) [.int .i64 c, .int .i64 s, .int .i64 p]) := CellsAt.below (CellsAt.alloc (CellsAt.alloc (CellsAt.new _ #[.int .i64 c, .int .i64 s, .int .i64 p] 23 _ (by simp)) _) _) hb1
  have Ka1 : Hid (CellsAt w1 (w.heap.size + 1) [.int .i64 x, .int .i64 y]) := CellsAt.below (CellsAt.alloc (CellsAt.new _ #[.int .i64 x, .int .i64 y] 39 _ (by simp)) _) hb1
  have Kb1 : Hid (CellsAt w1 (w.heap.size + 2) [.int .i64 z, .int .i64 t]) := CellsAt.below (CellsAt.new _ #[.int .i64 z, .int .i64 t] 39 _ (by simp)) hb1
  have HB1 : Hid (Below w.heap.size w w1) := bwStep (bwAlloc (bwAlloc (bwAlloc ((Below.refl _ _)) _) _) _) hb1
  clear hb1 
  have yf1 := Kf1.out.1
  have qf1_0 : w1.cell? ⟨w.heap.size, 0, none⟩ = some (.int .i64 c) := Kf1.out.2 0 (by simp)
  have qf1_1 : w1.cell? ⟨w.heap.size, 1, none⟩ = some (.int .i64 s) := Kf1.out.2 1 (by simp)
  have qf1_2 : w1.cell? ⟨w.heap.size, 2, none⟩ = some (.int .i64 p) := Kf1.out.2 2 (by simp)
  have ya1 := Ka1.out.1
  have qa1_0 : w1.cell? ⟨w.heap.size + 1, 0, none⟩ = some (.int .i64 x) := Ka1.out.2 0 (by simp)
  have qa1_1 : w1.cell? ⟨w.heap.size + 1, 1, none⟩ = some (.int .i64 y) := Ka1.out.2 1 (by simp)
  have yb1 := Kb1.out.1
  have qb1_0 : w1.cell? ⟨w.heap.size + 2, 0, none⟩ = some (.int .i64 z) := Kb1.out.2 0 (by simp)
  have qb1_1 : w1.cell? ⟨w.heap.size + 2, 1, none⟩ = some (.int .i64 t) := Kb1.out.2 1 (by simp)
  go_wp2_with fail
  refine (is_any c s p x _).mono ?_
  rintro e w2 ⟨rfl, hb2⟩
  rw [HX1.out]
  have Kf2 : Hid (CellsAt w2 (w.heap.size) [.int .i64 c, .int .i64 s, .int .i64 p]) := CellsAt.below (Kf1.out) hb2
  have Ka2 : Hid (CellsAt w2 (w.heap.size + 1) [.int .i64 x, .int .i64 y]) := CellsAt.below (Ka1.out) hb2
  have Kb2 : Hid (CellsAt w2 (w.heap.size + 2) [.int .i64 z, .int .i64 t]) := CellsAt.below (Kb1.out) hb2
  have HB2 : Hid (Below w.heap.size w w2) := bwStep (HB1.out) hb2
  clear hb2 yf1 qf1_0 qf1_1 qf1_2 ya1 qa1_0 qa1_1 yb1 qb1_0 qb1_1
  have yf2 := Kf2.out.1
  have qf2_0 : w2.cell? ⟨w.heap.size, 0, none⟩ = some (.int .i64 c) := Kf2.out.2 0 (by simp)
  have qf2_1 : w2.cell? ⟨w.heap.size, 1, none⟩ = some (.int .i64 s) := Kf2.out.2 1 (by simp)
  have qf2_2 : w2.cell? ⟨w.heap.size, 2, none⟩ = some (.int .i64 p) := Kf2.out.2 2 (by simp)
  have ya2 := Ka2.out.1
  have qa2_0 : w2.cell? ⟨w.heap.size + 1, 0, none⟩ = some (.int .i64 x) := Ka2.out.2 0 (by simp)
  have qa2_1 : w2.cell? ⟨w.heap.size + 1, 1, none⟩ = some (.int .i64 y) := Ka2.out.2 1 (by simp)
  have yb2 := Kb2.out.1
  have qb2_0 : w2.cell? ⟨w.heap.size + 2, 0, none⟩ = some (.int .i64 z) := Kb2.out.2 0 (by simp)
  have qb2_1 : w2.cell? ⟨w.heap.size + 2, 1, none⟩ = some (.int .i64 t) := Kb2.out.2 1 (by simp)
  go_wp2_with fail
  refine (alive_any _).mono ?_
  rintro e w3 ⟨rfl, hb3⟩
  have Kf3 : Hid (CellsAt w3 (w.heap.size) [.int .i64 c, .int .i64 s, .int .i64 p]) := CellsAt.below (Kf2.out) hb3
  have Ka3 : Hid (CellsAt w3 (w.heap.size + 1) [.int .i64 x, .int .i64 y]) := CellsAt.below (Ka2.out) hb3
  have Kb3 : Hid (CellsAt w3 (w.heap.size + 2) [.int .i64 z, .int .i64 t]) := CellsAt.below (Kb2.out) hb3
  have HB3 : Hid (Below w.heap.size w w3) := bwStep (HB2.out) hb3
  clear hb3 yf2 qf2_0 qf2_1 qf2_2 ya2 qa2_0 qa2_1 yb2 qb2_0 qb2_1
  have yf3 := Kf3.out.1
  have qf3_0 : w3.cell? ⟨w.heap.size, 0, none⟩ = some (.int .i64 c) := Kf3.out.2 0 (by simp)
  have qf3_1 : w3.cell? ⟨w.heap.size, 1, none⟩ = some (.int .i64 s) := Kf3.out.2 1 (by simp)
  have qf3_2 : w3.cell? ⟨w.heap.size, 2, none⟩ = some (.int .i64 p) := Kf3.out.2 2 (by simp)
  have ya3 := Ka3.out.1
  have qa3_0 : w3.cell? ⟨w.heap.size + 1, 0, none⟩ = some (.int .i64 x) := Ka3.out.2 0 (by simp)
  have qa3_1 : w3.cell? ⟨w.heap.size + 1, 1, none⟩ = some (.int .i64 y) := Ka3.out.2 1 (by simp)
  have yb3 := Kb3.out.1
  have qb3_0 : w3.cell? ⟨w.heap.size + 2, 0, none⟩ = some (.int .i64 z) := Kb3.out.2 0 (by simp)
  have qb3_1 : w3.cell? ⟨w.heap.size + 2, 1, none⟩ = some (.int .i64 t) := Kb3.out.2 1 (by simp)
  go_wp2_with fail
  go_ret
  exact ⟨rfl, HB3.out⟩
set_option maxRecDepth 100000 in
set_option maxHeartbeats 4000000 in
theorem no2 (c s p x y z t : Int) (w : World) (bc : I64 c) (bs : I64 s) (bp : I64 p) (hx0 : vldB c s p = true) (hx1 : isB s x = true) (hx2 : isB s y = false) :
    Calls Try.prog 7 #[.agg #[.int .i64 c, .int .i64 s, .int .i64 p], .agg #[.int .i64 x, .int .i64 y], .agg #[.int .i64 z, .int .i64 t]] w fun e w' => e = .returned (.bool true) ∧ Below w.heap.size w w' := by
  have HX0 := Lib.hid hx0; clear hx0
  have HX1 := Lib.hid hx1; clear hx1
  have HX2 := Lib.hid hx2; clear hx2
  go_enter Try.func7, Try.ntmps7
  go_wp2_with fail
  refine (rvalid_any c s p _ (by omega) (by omega)).mono ?_
  rintro e w1 ⟨rfl, hb1⟩
  rw [HX0.out]
  have Kf1 : Hid (CellsAt w1 (w.heap.size) [.int .i64 c, .int .i64 s, .int .i64 p]) := CellsAt.below (CellsAt.alloc (CellsAt.alloc (CellsAt.new _ #[.int .i64 c, .int .i64 s, .int .i64 p] 23 _ (by simp)) _) _) hb1
  have Ka1 : Hid (CellsAt w1 (w.heap.size + 1) [.int .i64 x, .int .i64 y]) := CellsAt.below (CellsAt.alloc (CellsAt.new _ #[.int .i64 x, .int .i64 y] 39 _ (by simp)) _) hb1
  have Kb1 : Hid (CellsAt w1 (w.heap.size + 2) [.int .i64 z, .int .i64 t]) := CellsAt.below (CellsAt.new _ #[.int .i64 z, .int .i64 t] 39 _ (by simp)) hb1
  have HB1 : Hid (Below w.heap.size w w1) := bwStep (bwAlloc (bwAlloc (bwAlloc ((Below.refl _ _)) _) _) _) hb1
  clear hb1 
  have yf1 := Kf1.out.1
  have qf1_0 : w1.cell? ⟨w.heap.size, 0, none⟩ = some (.int .i64 c) := Kf1.out.2 0 (by simp)
  have qf1_1 : w1.cell? ⟨w.heap.size, 1, none⟩ = some (.int .i64 s) := Kf1.out.2 1 (by simp)
  have qf1_2 : w1.cell? ⟨w.heap.size, 2, none⟩ = some (.int .i64 p) := Kf1.out.2 2 (by simp)
  have ya1 := Ka1.out.1
  have qa1_0 : w1.cell? ⟨w.heap.size + 1, 0, none⟩ = some (.int .i64 x) := Ka1.out.2 0 (by simp)
  have qa1_1 : w1.cell? ⟨w.heap.size + 1, 1, none⟩ = some (.int .i64 y) := Ka1.out.2 1 (by simp)
  have yb1 := Kb1.out.1
  have qb1_0 : w1.cell? ⟨w.heap.size + 2, 0, none⟩ = some (.int .i64 z) := Kb1.out.2 0 (by simp)
  have qb1_1 : w1.cell? ⟨w.heap.size + 2, 1, none⟩ = some (.int .i64 t) := Kb1.out.2 1 (by simp)
  go_wp2_with fail
  refine (is_any c s p x _).mono ?_
  rintro e w2 ⟨rfl, hb2⟩
  rw [HX1.out]
  have Kf2 : Hid (CellsAt w2 (w.heap.size) [.int .i64 c, .int .i64 s, .int .i64 p]) := CellsAt.below (Kf1.out) hb2
  have Ka2 : Hid (CellsAt w2 (w.heap.size + 1) [.int .i64 x, .int .i64 y]) := CellsAt.below (Ka1.out) hb2
  have Kb2 : Hid (CellsAt w2 (w.heap.size + 2) [.int .i64 z, .int .i64 t]) := CellsAt.below (Kb1.out) hb2
  have HB2 : Hid (Below w.heap.size w w2) := bwStep (HB1.out) hb2
  clear hb2 yf1 qf1_0 qf1_1 qf1_2 ya1 qa1_0 qa1_1 yb1 qb1_0 qb1_1
  have yf2 := Kf2.out.1
  have qf2_0 : w2.cell? ⟨w.heap.size, 0, none⟩ = some (.int .i64 c) := Kf2.out.2 0 (by simp)
  have qf2_1 : w2.cell? ⟨w.heap.size, 1, none⟩ = some (.int .i64 s) := Kf2.out.2 1 (by simp)
  have qf2_2 : w2.cell? ⟨w.heap.size, 2, none⟩ = some (.int .i64 p) := Kf2.out.2 2 (by simp)
  have ya2 := Ka2.out.1
  have qa2_0 : w2.cell? ⟨w.heap.size + 1, 0, none⟩ = some (.int .i64 x) := Ka2.out.2 0 (by simp)
  have qa2_1 : w2.cell? ⟨w.heap.size + 1, 1, none⟩ = some (.int .i64 y) := Ka2.out.2 1 (by simp)
  have yb2 := Kb2.out.1
  have qb2_0 : w2.cell? ⟨w.heap.size + 2, 0, none⟩ = some (.int .i64 z) := Kb2.out.2 0 (by simp)
  have qb2_1 : w2.cell? ⟨w.heap.size + 2, 1, none⟩ = some (.int .i64 t) := Kb2.out.2 1 (by simp)
  go_wp2_with fail
  refine (is_any c s p y _).mono ?_
  rintro e w3 ⟨rfl, hb3⟩
  rw [HX2.out]
  have Kf3 : Hid (CellsAt w3 (w.heap.size) [.int .i64 c, .int .i64 s, .int .i64 p]) := CellsAt.below (Kf2.out) hb3
  have Ka3 : Hid (CellsAt w3 (w.heap.size + 1) [.int .i64 x, .int .i64 y]) := CellsAt.below (Ka2.out) hb3
  have Kb3 : Hid (CellsAt w3 (w.heap.size + 2) [.int .i64 z, .int .i64 t]) := CellsAt.below (Kb2.out) hb3
  have HB3 : Hid (Below w.heap.size w w3) := bwStep (HB2.out) hb3
  clear hb3 yf2 qf2_0 qf2_1 qf2_2 ya2 qa2_0 qa2_1 yb2 qb2_0 qb2_1
  have yf3 := Kf3.out.1
  have qf3_0 : w3.cell? ⟨w.heap.size, 0, none⟩ = some (.int .i64 c) := Kf3.out.2 0 (by simp)
  have qf3_1 : w3.cell? ⟨w.heap.size, 1, none⟩ = some (.int .i64 s) := Kf3.out.2 1 (by simp)
  have qf3_2 : w3.cell? ⟨w.heap.size, 2, none⟩ = some (.int .i64 p) := Kf3.out.2 2 (by simp)
  have ya3 := Ka3.out.1
  have qa3_0 : w3.cell? ⟨w.heap.size + 1, 0, none⟩ = some (.int .i64 x) := Ka3.out.2 0 (by simp)
  have qa3_1 : w3.cell? ⟨w.heap.size + 1, 1, none⟩ = some (.int .i64 y) := Ka3.out.2 1 (by simp)
  have yb3 := Kb3.out.1
  have qb3_0 : w3.cell? ⟨w.heap.size + 2, 0, none⟩ = some (.int .i64 z) := Kb3.out.2 0 (by simp)
  have qb3_1 : w3.cell? ⟨w.heap.size + 2, 1, none⟩ = some (.int .i64 t) := Kb3.out.2 1 (by simp)
  go_wp2_with fail
  refine (alive_any _).mono ?_
  rintro e w4 ⟨rfl, hb4⟩
  have Kf4 : Hid (CellsAt w4 (w.heap.size) [.int .i64 c, .int .i64 s, .int .i64 p]) := CellsAt.below (Kf3.out) hb4
  have Ka4 : Hid (CellsAt w4 (w.heap.size + 1) [.int .i64 x, .int .i64 y]) := CellsAt.below (Ka3.out) hb4
  have Kb4 : Hid (CellsAt w4 (w.heap.size + 2) [.int .i64 z, .int .i64 t]) := CellsAt.below (Kb3.out) hb4
  have HB4 : Hid (Below w.heap.size w w4) := bwStep (HB3.out) hb4
  clear hb4 yf3 qf3_0 qf3_1 qf3_2 ya3 qa3_0 qa3_1 yb3 qb3_0 qb3_1
  have yf4 := Kf4.out.1
  have qf4_0 : w4.cell? ⟨w.heap.size, 0, none⟩ = some (.int .i64 c) := Kf4.out.2 0 (by simp)
  have qf4_1 : w4.cell? ⟨w.heap.size, 1, none⟩ = some (.int .i64 s) := Kf4.out.2 1 (by simp)
  have qf4_2 : w4.cell? ⟨w.heap.size, 2, none⟩ = some (.int .i64 p) := Kf4.out.2 2 (by simp)
  have ya4 := Ka4.out.1
  have qa4_0 : w4.cell? ⟨w.heap.size + 1, 0, none⟩ = some (.int .i64 x) := Ka4.out.2 0 (by simp)
  have qa4_1 : w4.cell? ⟨w.heap.size + 1, 1, none⟩ = some (.int .i64 y) := Ka4.out.2 1 (by simp)
  have yb4 := Kb4.out.1
  have qb4_0 : w4.cell? ⟨w.heap.size + 2, 0, none⟩ = some (.int .i64 z) := Kb4.out.2 0 (by simp)
  have qb4_1 : w4.cell? ⟨w.heap.size + 2, 1, none⟩ = some (.int .i64 t) := Kb4.out.2 1 (by simp)
  go_wp2_with fail
  go_ret
  exact ⟨rfl, HB4.out⟩
set_option maxRecDepth 100000 in
set_option maxHeartbeats 4000000 in
theorem no3 (c s p x y z t : Int) (w : World) (bc : I64 c) (bs : I64 s) (bp : I64 p) (hx0 : vldB c s p = true) (hx1 : isB s x = true) (hx2 : isB s y = true) (hx3 : isB s z = false) :
    Calls Try.prog 7 #[.agg #[.int .i64 c, .int .i64 s, .int .i64 p], .agg #[.int .i64 x, .int .i64 y], .agg #[.int .i64 z, .int .i64 t]] w fun e w' => e = .returned (.bool true) ∧ Below w.heap.size w w' := by
  have HX0 := Lib.hid hx0; clear hx0
  have HX1 := Lib.hid hx1; clear hx1
  have HX2 := Lib.hid hx2; clear hx2
  have HX3 := Lib.hid hx3; clear hx3
  go_enter Try.func7, Try.ntmps7
  go_wp2_with fail
  refine (rvalid_any c s p _ (by omega) (by omega)).mono ?_
  rintro e w1 ⟨rfl, hb1⟩
  rw [HX0.out]
  have Kf1 : Hid (CellsAt w1 (w.heap.size) [.int .i64 c, .int .i64 s, .int .i64 p]) := CellsAt.below (CellsAt.alloc (CellsAt.alloc (CellsAt.new _ #[.int .i64 c, .int .i64 s, .int .i64 p] 23 _ (by simp)) _) _) hb1
  have Ka1 : Hid (CellsAt w1 (w.heap.size + 1) [.int .i64 x, .int .i64 y]) := CellsAt.below (CellsAt.alloc (CellsAt.new _ #[.int .i64 x, .int .i64 y] 39 _ (by simp)) _) hb1
  have Kb1 : Hid (CellsAt w1 (w.heap.size + 2) [.int .i64 z, .int .i64 t]) := CellsAt.below (CellsAt.new _ #[.int .i64 z, .int .i64 t] 39 _ (by simp)) hb1
  have HB1 : Hid (Below w.heap.size w w1) := bwStep (bwAlloc (bwAlloc (bwAlloc ((Below.refl _ _)) _) _) _) hb1
  clear hb1 
  have yf1 := Kf1.out.1
  have qf1_0 : w1.cell? ⟨w.heap.size, 0, none⟩ = some (.int .i64 c) := Kf1.out.2 0 (by simp)
  have qf1_1 : w1.cell? ⟨w.heap.size, 1, none⟩ = some (.int .i64 s) := Kf1.out.2 1 (by simp)
  have qf1_2 : w1.cell? ⟨w.heap.size, 2, none⟩ = some (.int .i64 p) := Kf1.out.2 2 (by simp)
  have ya1 := Ka1.out.1
  have qa1_0 : w1.cell? ⟨w.heap.size + 1, 0, none⟩ = some (.int .i64 x) := Ka1.out.2 0 (by simp)
  have qa1_1 : w1.cell? ⟨w.heap.size + 1, 1, none⟩ = some (.int .i64 y) := Ka1.out.2 1 (by simp)
  have yb1 := Kb1.out.1
  have qb1_0 : w1.cell? ⟨w.heap.size + 2, 0, none⟩ = some (.int .i64 z) := Kb1.out.2 0 (by simp)
  have qb1_1 : w1.cell? ⟨w.heap.size + 2, 1, none⟩ = some (.int .i64 t) := Kb1.out.2 1 (by simp)
  go_wp2_with fail
  refine (is_any c s p x _).mono ?_
  rintro e w2 ⟨rfl, hb2⟩
  rw [HX1.out]
  have Kf2 : Hid (CellsAt w2 (w.heap.size) [.int .i64 c, .int .i64 s, .int .i64 p]) := CellsAt.below (Kf1.out) hb2
  have Ka2 : Hid (CellsAt w2 (w.heap.size + 1) [.int .i64 x, .int .i64 y]) := CellsAt.below (Ka1.out) hb2
  have Kb2 : Hid (CellsAt w2 (w.heap.size + 2) [.int .i64 z, .int .i64 t]) := CellsAt.below (Kb1.out) hb2
  have HB2 : Hid (Below w.heap.size w w2) := bwStep (HB1.out) hb2
  clear hb2 yf1 qf1_0 qf1_1 qf1_2 ya1 qa1_0 qa1_1 yb1 qb1_0 qb1_1
  have yf2 := Kf2.out.1
  have qf2_0 : w2.cell? ⟨w.heap.size, 0, none⟩ = some (.int .i64 c) := Kf2.out.2 0 (by simp)
  have qf2_1 : w2.cell? ⟨w.heap.size, 1, none⟩ = some (.int .i64 s) := Kf2.out.2 1 (by simp)
  have qf2_2 : w2.cell? ⟨w.heap.size, 2, none⟩ = some (.int .i64 p) := Kf2.out.2 2 (by simp)
  have ya2 := Ka2.out.1
  have qa2_0 : w2.cell? ⟨w.heap.size + 1, 0, none⟩ = some (.int .i64 x) := Ka2.out.2 0 (by simp)
  have qa2_1 : w2.cell? ⟨w.heap.size + 1, 1, none⟩ = some (.int .i64 y) := Ka2.out.2 1 (by simp)
  have yb2 := Kb2.out.1
  have qb2_0 : w2.cell? ⟨w.heap.size + 2, 0, none⟩ = some (.int .i64 z) := Kb2.out.2 0 (by simp)
  have qb2_1 : w2.cell? ⟨w.heap.size + 2, 1, none⟩ = some (.int .i64 t) := Kb2.out.2 1 (by simp)
  go_wp2_with fail
  refine (is_any c s p y _).mono ?_
  rintro e w3 ⟨rfl, hb3⟩
  rw [HX2.out]
  have Kf3 : Hid (CellsAt w3 (w.heap.size) [.int .i64 c, .int .i64 s, .int .i64 p]) := CellsAt.below (Kf2.out) hb3
  have Ka3 : Hid (CellsAt w3 (w.heap.size + 1) [.int .i64 x, .int .i64 y]) := CellsAt.below (Ka2.out) hb3
  have Kb3 : Hid (CellsAt w3 (w.heap.size + 2) [.int .i64 z, .int .i64 t]) := CellsAt.below (Kb2.out) hb3
  have HB3 : Hid (Below w.heap.size w w3) := bwStep (HB2.out) hb3
  clear hb3 yf2 qf2_0 qf2_1 qf2_2 ya2 qa2_0 qa2_1 yb2 qb2_0 qb2_1
  have yf3 := Kf3.out.1
  have qf3_0 : w3.cell? ⟨w.heap.size, 0, none⟩ = some (.int .i64 c) := Kf3.out.2 0 (by simp)
  have qf3_1 : w3.cell? ⟨w.heap.size, 1, none⟩ = some (.int .i64 s) := Kf3.out.2 1 (by simp)
  have qf3_2 : w3.cell? ⟨w.heap.size, 2, none⟩ = some (.int .i64 p) := Kf3.out.2 2 (by simp)
  have ya3 := Ka3.out.1
  have qa3_0 : w3.cell? ⟨w.heap.size + 1, 0, none⟩ = some (.int .i64 x) := Ka3.out.2 0 (by simp)
  have qa3_1 : w3.cell? ⟨w.heap.size + 1, 1, none⟩ = some (.int .i64 y) := Ka3.out.2 1 (by simp)
  have yb3 := Kb3.out.1
  have qb3_0 : w3.cell? ⟨w.heap.size + 2, 0, none⟩ = some (.int .i64 z) := Kb3.out.2 0 (by simp)
  have qb3_1 : w3.cell? ⟨w.heap.size + 2, 1, none⟩ = some (.int .i64 t) := Kb3.out.2 1 (by simp)
  go_wp2_with fail
  refine (is_any c s p z _).mono ?_
  rintro e w4 ⟨rfl, hb4⟩
  rw [HX3.out]
  have Kf4 : Hid (CellsAt w4 (w.heap.size) [.int .i64 c, .int .i64 s, .int .i64 p]) := CellsAt.below (Kf3.out) hb4
  have Ka4 : Hid (CellsAt w4 (w.heap.size + 1) [.int .i64 x, .int .i64 y]) := CellsAt.below (Ka3.out) hb4
  have Kb4 : Hid (CellsAt w4 (w.heap.size + 2) [.int .i64 z, .int .i64 t]) := CellsAt.below (Kb3.out) hb4
  have HB4 : Hid (Below w.heap.size w w4) := bwStep (HB3.out) hb4
  clear hb4 yf3 qf3_0 qf3_1 qf3_2 ya3 qa3_0 qa3_1 yb3 qb3_0 qb3_1
  have yf4 := Kf4.out.1
  have qf4_0 : w4.cell? ⟨w.heap.size, 0, none⟩ = some (.int .i64 c) := Kf4.out.2 0 (by simp)
  have qf4_1 : w4.cell? ⟨w.heap.size, 1, none⟩ = some (.int .i64 s) := Kf4.out.2 1 (by simp)
  have qf4_2 : w4.cell? ⟨w.heap.size, 2, none⟩ = some (.int .i64 p) := Kf4.out.2 2 (by simp)
  have ya4 := Ka4.out.1
  have qa4_0 : w4.cell? ⟨w.heap.size + 1, 0, none⟩ = some (.int .i64 x) := Ka4.out.2 0 (by simp)
  have qa4_1 : w4.cell? ⟨w.heap.size + 1, 1, none⟩ = some (.int .i64 y) := Ka4.out.2 1 (by simp)
  have yb4 := Kb4.out.1
  have qb4_0 : w4.cell? ⟨w.heap.size + 2, 0, none⟩ = some (.int .i64 z) := Kb4.out.2 0 (by simp)
  have qb4_1 : w4.cell? ⟨w.heap.size + 2, 1, none⟩ = some (.int .i64 t) := Kb4.out.2 1 (by simp)
  go_wp2_with fail
  refine (alive_any _).mono ?_
  rintro e w5 ⟨rfl, hb5⟩
  have Kf5 : Hid (CellsAt w5 (w.heap.size) [.int .i64 c, .int .i64 s, .int .i64 p]) := CellsAt.below (Kf4.out) hb5
  have Ka5 : Hid (CellsAt w5 (w.heap.size + 1) [.int .i64 x, .int .i64 y]) := CellsAt.below (Ka4.out) hb5
  have Kb5 : Hid (CellsAt w5 (w.heap.size + 2) [.int .i64 z, .int .i64 t]) := CellsAt.below (Kb4.out) hb5
  have HB5 : Hid (Below w.heap.size w w5) := bwStep (HB4.out) hb5
  clear hb5 yf4 qf4_0 qf4_1 qf4_2 ya4 qa4_0 qa4_1 yb4 qb4_0 qb4_1
  have yf5 := Kf5.out.1
  have qf5_0 : w5.cell? ⟨w.heap.size, 0, none⟩ = some (.int .i64 c) := Kf5.out.2 0 (by simp)
  have qf5_1 : w5.cell? ⟨w.heap.size, 1, none⟩ = some (.int .i64 s) := Kf5.out.2 1 (by simp)
  have qf5_2 : w5.cell? ⟨w.heap.size, 2, none⟩ = some (.int .i64 p) := Kf5.out.2 2 (by simp)
  have ya5 := Ka5.out.1
  have qa5_0 : w5.cell? ⟨w.heap.size + 1, 0, none⟩ = some (.int .i64 x) := Ka5.out.2 0 (by simp)
  have qa5_1 : w5.cell? ⟨w.heap.size + 1, 1, none⟩ = some (.int .i64 y) := Ka5.out.2 1 (by simp)
  have yb5 := Kb5.out.1
  have qb5_0 : w5.cell? ⟨w.heap.size + 2, 0, none⟩ = some (.int .i64 z) := Kb5.out.2 0 (by simp)
  have qb5_1 : w5.cell? ⟨w.heap.size + 2, 1, none⟩ = some (.int .i64 t) := Kb5.out.2 1 (by simp)
  go_wp2_with fail
  go_ret
  exact ⟨rfl, HB5.out⟩
set_option maxRecDepth 100000 in
set_option maxHeartbeats 4000000 in
theorem yes0 (C S P X Y Z : Nat) (t : Int) (w : World) (hv : VF C S P) (hx : X < S) (hy : Y < S) (hz : Z < S) (hx0 : X = 0) :
    Calls Try.prog 7 #[.agg #[.int .i64 C, .int .i64 S, .int .i64 P], .agg #[.int .i64 X, .int .i64 Y], .agg #[.int .i64 Z, .int .i64 t]] w fun e w' => e = .returned (.bool true) ∧ Below w.heap.size w w' := by
  have hS := hv.le
  have hS2 := hv.two_le
  have hP : (P : Int) ≤ 9223372036854775807 := hv.pbd
  have HX0 : Hid (vldB C S P = true) := vld_of hv
  have HX1 : Hid (isB S (X : Int) = true) := isB_of hx
  have HX2 : Hid (isB S (Y : Int) = true) := isB_of hy
  have HX3 : Hid (isB S (Z : Int) = true) := isB_of hz
  have q1 := addN_assoc hv hx hy hz
  have q2 := addN_comm hv hx hy
  have q3 := addN_zero hv hx
  have q4 := mulN_assoc hv hx hy hz
  have q5 := mulN_comm hv hx hy
  have q6 := mul_oneN hv X hx
  have q7 := mulN_zero hv hx
  have q8 := mulN_add hv hx hy hz
  have q9 := addN_neg hv hx
  have q10 := subN_add hv hx hy
  have RS : Hid (subR C S P 0 X = (((fsubN S P 0 X : Nat) : Int), 0)) := by show _ = _; exact (subR_ok hv (by omega) (by omega) (by omega) (by omega)).trans (by simp)
  have RD : Hid (subR C S P X Y = (((fsubN S P X Y : Nat) : Int), 0)) := by show _ = _; exact (subR_ok hv (by omega) (by omega) (by omega) (by omega)).trans (by simp)
  have RI : Hid (invR C S P X = (0, 12)) := by show _ = _; unfold invR; rw [ok1_of hv hx, if_pos rfl, if_pos (by omega)]
  have ls1 := fadd_lt hv X Y hx hy
  generalize es1 : faddN S P X Y = s1 at *
  have ls3 := fadd_lt hv Y Z hy hz
  generalize es3 : faddN S P Y Z = s3 at *
  have lm1 := fmul_lt hv X Y
  generalize em1 : fmulN S P X Y = m1 at *
  have lm3 := fmul_lt hv Y Z
  generalize em3 : fmulN S P Y Z = m3 at *
  have lm4 := fmul_lt hv X Z
  generalize em4 : fmulN S P X Z = m4 at *
  have ls2 := fadd_lt hv s1 Z ls1 hz
  generalize es2 : faddN S P s1 Z = s2 at *
  have lm2 := fmul_lt hv m1 Z
  generalize em2 : fmulN S P m1 Z = m2 at *
  have lp1 := fmul_lt hv X s3
  generalize ep1 : fmulN S P X s3 = p1 at *
  have ln1 := subN_lt hv (x := 0) (y := X) (by omega) hx
  generalize en1 : fsubN S P 0 X = n1 at *
  have ld1 := subN_lt hv hx hy
  generalize ed1 : fsubN S P X Y = d1 at *
  have A1 : Hid (faddN S P (X : Int).toNat (Y : Int).toNat = s1) := Lib.hid es1
  have A2 : Hid (faddN S P (s1 : Int).toNat (Z : Int).toNat = s2) := Lib.hid es2
  have A3 : Hid (faddN S P (Y : Int).toNat (Z : Int).toNat = s3) := Lib.hid es3
  have A4 : Hid (faddN S P (X : Int).toNat (s3 : Int).toNat = s2) := Lib.hid (q1.symm)
  have A5 : Hid (faddN S P (Y : Int).toNat (X : Int).toNat = s1) := Lib.hid (q2.symm)
  have A6 : Hid (faddN S P (X : Int).toNat (0 : Int).toNat = X) := Lib.hid q3
  have M1 : Hid (fmulN S P (X : Int).toNat (Y : Int).toNat = m1) := Lib.hid em1
  have M2 : Hid (fmulN S P (m1 : Int).toNat (Z : Int).toNat = m2) := Lib.hid em2
  have M3 : Hid (fmulN S P (Y : Int).toNat (Z : Int).toNat = m3) := Lib.hid em3
  have M4 : Hid (fmulN S P (X : Int).toNat (m3 : Int).toNat = m2) := Lib.hid (q4.symm)
  have M5 : Hid (fmulN S P (Y : Int).toNat (X : Int).toNat = m1) := Lib.hid (q5.symm)
  have M6 : Hid (fmulN S P (X : Int).toNat (1 : Int).toNat = X) := Lib.hid q6
  have M7 : Hid (fmulN S P (X : Int).toNat (0 : Int).toNat = 0) := Lib.hid q7
  have B1 : Hid (fmulN S P (X : Int).toNat (s3 : Int).toNat = p1) := Lib.hid ep1
  have B2 : Hid (fmulN S P (X : Int).toNat (Z : Int).toNat = m4) := Lib.hid em4
  have B3 : Hid (faddN S P (m1 : Int).toNat (m4 : Int).toNat = p1) := Lib.hid (q8.symm)
  have N1 : Hid (faddN S P (X : Int).toNat (n1 : Int).toNat = 0) := Lib.hid q9
  have D1 : Hid (faddN S P (d1 : Int).toNat (Y : Int).toNat = X) := Lib.hid q10
  clear q1 q2 q3 q4 q5 q6 q7 q8 q9 q10 es1 es2 es3 em1 em2 em3 em4 ep1 en1 ed1
  have hz0 : (((X : Nat) : Int) == 0) = true := by rw [beq_iff_eq]; omega
  clear hx0
  have HV := Lib.hid hv; clear hv
  go_enter Try.func7, Try.ntmps7
  go_wp2_with fail
  refine (rvalid_any C S P _ (by omega) hP).mono ?_
  rintro e w1 ⟨rfl, hb1⟩
  rw [HX0.out]
  have Kf1 : Hid (CellsAt w1 (w.heap.size) [.int .i64 C, .int .i64 S, .int .i64 P]) := CellsAt.below (CellsAt.alloc (CellsAt.alloc (CellsAt.new _ #[.int .i64 C, .int .i64 S, .int .i64 P] 23 _ (by simp)) _) _) hb1
  have Ka1 : Hid (CellsAt w1 (w.heap.size + 1) [.int .i64 X, .int .i64 Y]) := CellsAt.below (CellsAt.alloc (CellsAt.new _ #[.int .i64 X, .int .i64 Y] 39 _ (by simp)) _) hb1
  have Kb1 : Hid (CellsAt w1 (w.heap.size + 2) [.int .i64 Z, .int .i64 t]) := CellsAt.below (CellsAt.new _ #[.int .i64 Z, .int .i64 t] 39 _ (by simp)) hb1
  have HB1 : Hid (Below w.heap.size w w1) := bwStep (bwAlloc (bwAlloc (bwAlloc ((Below.refl _ _)) _) _) _) hb1
  clear hb1 
  have yf1 := Kf1.out.1
  have qf1_0 : w1.cell? ⟨w.heap.size, 0, none⟩ = some (.int .i64 C) := Kf1.out.2 0 (by simp)
  have qf1_1 : w1.cell? ⟨w.heap.size, 1, none⟩ = some (.int .i64 S) := Kf1.out.2 1 (by simp)
  have qf1_2 : w1.cell? ⟨w.heap.size, 2, none⟩ = some (.int .i64 P) := Kf1.out.2 2 (by simp)
  have ya1 := Ka1.out.1
  have qa1_0 : w1.cell? ⟨w.heap.size + 1, 0, none⟩ = some (.int .i64 X) := Ka1.out.2 0 (by simp)
  have qa1_1 : w1.cell? ⟨w.heap.size + 1, 1, none⟩ = some (.int .i64 Y) := Ka1.out.2 1 (by simp)
  have yb1 := Kb1.out.1
  have qb1_0 : w1.cell? ⟨w.heap.size + 2, 0, none⟩ = some (.int .i64 Z) := Kb1.out.2 0 (by simp)
  have qb1_1 : w1.cell? ⟨w.heap.size + 2, 1, none⟩ = some (.int .i64 t) := Kb1.out.2 1 (by simp)
  go_wp2_with fail
  refine (is_any C S P X _).mono ?_
  rintro e w2 ⟨rfl, hb2⟩
  rw [HX1.out]
  have Kf2 : Hid (CellsAt w2 (w.heap.size) [.int .i64 C, .int .i64 S, .int .i64 P]) := CellsAt.below (Kf1.out) hb2
  have Ka2 : Hid (CellsAt w2 (w.heap.size + 1) [.int .i64 X, .int .i64 Y]) := CellsAt.below (Ka1.out) hb2
  have Kb2 : Hid (CellsAt w2 (w.heap.size + 2) [.int .i64 Z, .int .i64 t]) := CellsAt.below (Kb1.out) hb2
  have HB2 : Hid (Below w.heap.size w w2) := bwStep (HB1.out) hb2
  clear hb2 yf1 qf1_0 qf1_1 qf1_2 ya1 qa1_0 qa1_1 yb1 qb1_0 qb1_1
  have yf2 := Kf2.out.1
  have qf2_0 : w2.cell? ⟨w.heap.size, 0, none⟩ = some (.int .i64 C) := Kf2.out.2 0 (by simp)
  have qf2_1 : w2.cell? ⟨w.heap.size, 1, none⟩ = some (.int .i64 S) := Kf2.out.2 1 (by simp)
  have qf2_2 : w2.cell? ⟨w.heap.size, 2, none⟩ = some (.int .i64 P) := Kf2.out.2 2 (by simp)
  have ya2 := Ka2.out.1
  have qa2_0 : w2.cell? ⟨w.heap.size + 1, 0, none⟩ = some (.int .i64 X) := Ka2.out.2 0 (by simp)
  have qa2_1 : w2.cell? ⟨w.heap.size + 1, 1, none⟩ = some (.int .i64 Y) := Ka2.out.2 1 (by simp)
  have yb2 := Kb2.out.1
  have qb2_0 : w2.cell? ⟨w.heap.size + 2, 0, none⟩ = some (.int .i64 Z) := Kb2.out.2 0 (by simp)
  have qb2_1 : w2.cell? ⟨w.heap.size + 2, 1, none⟩ = some (.int .i64 t) := Kb2.out.2 1 (by simp)
  go_wp2_with fail
  refine (is_any C S P Y _).mono ?_
  rintro e w3 ⟨rfl, hb3⟩
  rw [HX2.out]
  have Kf3 : Hid (CellsAt w3 (w.heap.size) [.int .i64 C, .int .i64 S, .int .i64 P]) := CellsAt.below (Kf2.out) hb3
  have Ka3 : Hid (CellsAt w3 (w.heap.size + 1) [.int .i64 X, .int .i64 Y]) := CellsAt.below (Ka2.out) hb3
  have Kb3 : Hid (CellsAt w3 (w.heap.size + 2) [.int .i64 Z, .int .i64 t]) := CellsAt.below (Kb2.out) hb3
  have HB3 : Hid (Below w.heap.size w w3) := bwStep (HB2.out) hb3
  clear hb3 yf2 qf2_0 qf2_1 qf2_2 ya2 qa2_0 qa2_1 yb2 qb2_0 qb2_1
  have yf3 := Kf3.out.1
  have qf3_0 : w3.cell? ⟨w.heap.size, 0, none⟩ = some (.int .i64 C) := Kf3.out.2 0 (by simp)
  have qf3_1 : w3.cell? ⟨w.heap.size, 1, none⟩ = some (.int .i64 S) := Kf3.out.2 1 (by simp)
  have qf3_2 : w3.cell? ⟨w.heap.size, 2, none⟩ = some (.int .i64 P) := Kf3.out.2 2 (by simp)
  have ya3 := Ka3.out.1
  have qa3_0 : w3.cell? ⟨w.heap.size + 1, 0, none⟩ = some (.int .i64 X) := Ka3.out.2 0 (by simp)
  have qa3_1 : w3.cell? ⟨w.heap.size + 1, 1, none⟩ = some (.int .i64 Y) := Ka3.out.2 1 (by simp)
  have yb3 := Kb3.out.1
  have qb3_0 : w3.cell? ⟨w.heap.size + 2, 0, none⟩ = some (.int .i64 Z) := Kb3.out.2 0 (by simp)
  have qb3_1 : w3.cell? ⟨w.heap.size + 2, 1, none⟩ = some (.int .i64 t) := Kb3.out.2 1 (by simp)
  go_wp2_with fail
  refine (is_any C S P Z _).mono ?_
  rintro e w4 ⟨rfl, hb4⟩
  rw [HX3.out]
  have Kf4 : Hid (CellsAt w4 (w.heap.size) [.int .i64 C, .int .i64 S, .int .i64 P]) := CellsAt.below (Kf3.out) hb4
  have Ka4 : Hid (CellsAt w4 (w.heap.size + 1) [.int .i64 X, .int .i64 Y]) := CellsAt.below (Ka3.out) hb4
  have Kb4 : Hid (CellsAt w4 (w.heap.size + 2) [.int .i64 Z, .int .i64 t]) := CellsAt.below (Kb3.out) hb4
  have HB4 : Hid (Below w.heap.size w w4) := bwStep (HB3.out) hb4
  clear hb4 yf3 qf3_0 qf3_1 qf3_2 ya3 qa3_0 qa3_1 yb3 qb3_0 qb3_1
  have yf4 := Kf4.out.1
  have qf4_0 : w4.cell? ⟨w.heap.size, 0, none⟩ = some (.int .i64 C) := Kf4.out.2 0 (by simp)
  have qf4_1 : w4.cell? ⟨w.heap.size, 1, none⟩ = some (.int .i64 S) := Kf4.out.2 1 (by simp)
  have qf4_2 : w4.cell? ⟨w.heap.size, 2, none⟩ = some (.int .i64 P) := Kf4.out.2 2 (by simp)
  have ya4 := Ka4.out.1
  have qa4_0 : w4.cell? ⟨w.heap.size + 1, 0, none⟩ = some (.int .i64 X) := Ka4.out.2 0 (by simp)
  have qa4_1 : w4.cell? ⟨w.heap.size + 1, 1, none⟩ = some (.int .i64 Y) := Ka4.out.2 1 (by simp)
  have yb4 := Kb4.out.1
  have qb4_0 : w4.cell? ⟨w.heap.size + 2, 0, none⟩ = some (.int .i64 Z) := Kb4.out.2 0 (by simp)
  have qb4_1 : w4.cell? ⟨w.heap.size + 2, 1, none⟩ = some (.int .i64 t) := Kb4.out.2 1 (by simp)
  go_wp2_with fail
  go_quiet (fail)
  go_wp2_with fail
  refine (cadd_any C S P X Y _ _ HV.out (by omega) (by omega) (by omega) (by omega) (CellsAt.drewN (CellsAt.new _ #[.int .i64 C, .int .i64 S, .int .i64 P, .bool true] 42 _ (by simp)) _) (FrzAt.drewN (FrzAt.new _ #[.int .i64 C, .int .i64 S, .int .i64 P, .bool true] 42 _ 3 (by simp)) _)).mono ?_
  rintro e w5 ⟨rfl, hb5⟩
  rw [A1.out]
  have Kf5 : Hid (CellsAt w5 (w.heap.size) [.int .i64 C, .int .i64 S, .int .i64 P]) := CellsAt.below (CellsAt.drewN (CellsAt.alloc (Kf4.out) _) _) hb5
  have Ka5 : Hid (CellsAt w5 (w.heap.size + 1) [.int .i64 X, .int .i64 Y]) := CellsAt.below (CellsAt.drewN (CellsAt.alloc (Ka4.out) _) _) hb5
  have Kb5 : Hid (CellsAt w5 (w.heap.size + 2) [.int .i64 Z, .int .i64 t]) := CellsAt.below (CellsAt.drewN (CellsAt.alloc (Kb4.out) _) _) hb5
  have Kk5 : Hid (CellsAt w5 (w4.heap.size) [.int .i64 C, .int .i64 S, .int .i64 P, .bool true]) := CellsAt.below (CellsAt.drewN (CellsAt.new _ #[.int .i64 C, .int .i64 S, .int .i64 P, .bool true] 42 _ (by simp)) _) hb5
  have Zk35 : Hid (FrzAt w5 (w4.heap.size) 3) := FrzAt.below (FrzAt.drewN (FrzAt.new _ #[.int .i64 C, .int .i64 S, .int .i64 P, .bool true] 42 _ 3 (by simp)) _) hb5
  have HB5 : Hid (Below w.heap.size w w5) := bwStep (below_drewN (bwAlloc (HB4.out) _) _) hb5
  clear hb5 yf4 qf4_0 qf4_1 qf4_2 ya4 qa4_0 qa4_1 yb4 qb4_0 qb4_1
  have yf5 := Kf5.out.1
  have qf5_0 : w5.cell? ⟨w.heap.size, 0, none⟩ = some (.int .i64 C) := Kf5.out.2 0 (by simp)
  have qf5_1 : w5.cell? ⟨w.heap.size, 1, none⟩ = some (.int .i64 S) := Kf5.out.2 1 (by simp)
  have qf5_2 : w5.cell? ⟨w.heap.size, 2, none⟩ = some (.int .i64 P) := Kf5.out.2 2 (by simp)
  have ya5 := Ka5.out.1
  have qa5_0 : w5.cell? ⟨w.heap.size + 1, 0, none⟩ = some (.int .i64 X) := Ka5.out.2 0 (by simp)
  have qa5_1 : w5.cell? ⟨w.heap.size + 1, 1, none⟩ = some (.int .i64 Y) := Ka5.out.2 1 (by simp)
  have yb5 := Kb5.out.1
  have qb5_0 : w5.cell? ⟨w.heap.size + 2, 0, none⟩ = some (.int .i64 Z) := Kb5.out.2 0 (by simp)
  have qb5_1 : w5.cell? ⟨w.heap.size + 2, 1, none⟩ = some (.int .i64 t) := Kb5.out.2 1 (by simp)
  have yk5 := Kk5.out.1
  have qk5_0 : w5.cell? ⟨w4.heap.size, 0, none⟩ = some (.int .i64 C) := Kk5.out.2 0 (by simp)
  have qk5_1 : w5.cell? ⟨w4.heap.size, 1, none⟩ = some (.int .i64 S) := Kk5.out.2 1 (by simp)
  have qk5_2 : w5.cell? ⟨w4.heap.size, 2, none⟩ = some (.int .i64 P) := Kk5.out.2 2 (by simp)
  have qk5_3 : w5.cell? ⟨w4.heap.size, 3, none⟩ = some (.bool true) := Kk5.out.2 3 (by simp)
  go_wp2_with fail
  refine (cadd_any C S P s1 Z _ _ HV.out (by omega) (by omega) (by omega) (by omega) Kk5.out Zk35.out).mono ?_
  rintro e w6 ⟨rfl, hb6⟩
  rw [A2.out]
  have Kf6 : Hid (CellsAt w6 (w.heap.size) [.int .i64 C, .int .i64 S, .int .i64 P]) := CellsAt.below (Kf5.out) hb6
  have Ka6 : Hid (CellsAt w6 (w.heap.size + 1) [.int .i64 X, .int .i64 Y]) := CellsAt.below (Ka5.out) hb6
  have Kb6 : Hid (CellsAt w6 (w.heap.size + 2) [.int .i64 Z, .int .i64 t]) := CellsAt.below (Kb5.out) hb6
  have Kk6 : Hid (CellsAt w6 (w4.heap.size) [.int .i64 C, .int .i64 S, .int .i64 P, .bool true]) := CellsAt.below (Kk5.out) hb6
  have Zk36 : Hid (FrzAt w6 (w4.heap.size) 3) := FrzAt.below (Zk35.out) hb6
  have HB6 : Hid (Below w.heap.size w w6) := bwStep (HB5.out) hb6
  clear hb6 yf5 qf5_0 qf5_1 qf5_2 ya5 qa5_0 qa5_1 yb5 qb5_0 qb5_1 yk5 qk5_0 qk5_1 qk5_2 qk5_3
  have yf6 := Kf6.out.1
  have qf6_0 : w6.cell? ⟨w.heap.size, 0, none⟩ = some (.int .i64 C) := Kf6.out.2 0 (by simp)
  have qf6_1 : w6.cell? ⟨w.heap.size, 1, none⟩ = some (.int .i64 S) := Kf6.out.2 1 (by simp)
  have qf6_2 : w6.cell? ⟨w.heap.size, 2, none⟩ = some (.int .i64 P) := Kf6.out.2 2 (by simp)
  have ya6 := Ka6.out.1
  have qa6_0 : w6.cell? ⟨w.heap.size + 1, 0, none⟩ = some (.int .i64 X) := Ka6.out.2 0 (by simp)
  have qa6_1 : w6.cell? ⟨w.heap.size + 1, 1, none⟩ = some (.int .i64 Y) := Ka6.out.2 1 (by simp)
  have yb6 := Kb6.out.1
  have qb6_0 : w6.cell? ⟨w.heap.size + 2, 0, none⟩ = some (.int .i64 Z) := Kb6.out.2 0 (by simp)
  have qb6_1 : w6.cell? ⟨w.heap.size + 2, 1, none⟩ = some (.int .i64 t) := Kb6.out.2 1 (by simp)
  have yk6 := Kk6.out.1
  have qk6_0 : w6.cell? ⟨w4.heap.size, 0, none⟩ = some (.int .i64 C) := Kk6.out.2 0 (by simp)
  have qk6_1 : w6.cell? ⟨w4.heap.size, 1, none⟩ = some (.int .i64 S) := Kk6.out.2 1 (by simp)
  have qk6_2 : w6.cell? ⟨w4.heap.size, 2, none⟩ = some (.int .i64 P) := Kk6.out.2 2 (by simp)
  have qk6_3 : w6.cell? ⟨w4.heap.size, 3, none⟩ = some (.bool true) := Kk6.out.2 3 (by simp)
  go_wp2_with fail
  refine (cadd_any C S P Y Z _ _ HV.out (by omega) (by omega) (by omega) (by omega) Kk6.out Zk36.out).mono ?_
  rintro e w7 ⟨rfl, hb7⟩
  rw [A3.out]
  have Kf7 : Hid (CellsAt w7 (w.heap.size) [.int .i64 C, .int .i64 S, .int .i64 P]) := CellsAt.below (Kf6.out) hb7
  have Ka7 : Hid (CellsAt w7 (w.heap.size + 1) [.int .i64 X, .int .i64 Y]) := CellsAt.below (Ka6.out) hb7
  have Kb7 : Hid (CellsAt w7 (w.heap.size + 2) [.int .i64 Z, .int .i64 t]) := CellsAt.below (Kb6.out) hb7
  have Kk7 : Hid (CellsAt w7 (w4.heap.size) [.int .i64 C, .int .i64 S, .int .i64 P, .bool true]) := CellsAt.below (Kk6.out) hb7
  have Zk37 : Hid (FrzAt w7 (w4.heap.size) 3) := FrzAt.below (Zk36.out) hb7
  have HB7 : Hid (Below w.heap.size w w7) := bwStep (HB6.out) hb7
  clear hb7 yf6 qf6_0 qf6_1 qf6_2 ya6 qa6_0 qa6_1 yb6 qb6_0 qb6_1 yk6 qk6_0 qk6_1 qk6_2 qk6_3
  have yf7 := Kf7.out.1
  have qf7_0 : w7.cell? ⟨w.heap.size, 0, none⟩ = some (.int .i64 C) := Kf7.out.2 0 (by simp)
  have qf7_1 : w7.cell? ⟨w.heap.size, 1, none⟩ = some (.int .i64 S) := Kf7.out.2 1 (by simp)
  have qf7_2 : w7.cell? ⟨w.heap.size, 2, none⟩ = some (.int .i64 P) := Kf7.out.2 2 (by simp)
  have ya7 := Ka7.out.1
  have qa7_0 : w7.cell? ⟨w.heap.size + 1, 0, none⟩ = some (.int .i64 X) := Ka7.out.2 0 (by simp)
  have qa7_1 : w7.cell? ⟨w.heap.size + 1, 1, none⟩ = some (.int .i64 Y) := Ka7.out.2 1 (by simp)
  have yb7 := Kb7.out.1
  have qb7_0 : w7.cell? ⟨w.heap.size + 2, 0, none⟩ = some (.int .i64 Z) := Kb7.out.2 0 (by simp)
  have qb7_1 : w7.cell? ⟨w.heap.size + 2, 1, none⟩ = some (.int .i64 t) := Kb7.out.2 1 (by simp)
  have yk7 := Kk7.out.1
  have qk7_0 : w7.cell? ⟨w4.heap.size, 0, none⟩ = some (.int .i64 C) := Kk7.out.2 0 (by simp)
  have qk7_1 : w7.cell? ⟨w4.heap.size, 1, none⟩ = some (.int .i64 S) := Kk7.out.2 1 (by simp)
  have qk7_2 : w7.cell? ⟨w4.heap.size, 2, none⟩ = some (.int .i64 P) := Kk7.out.2 2 (by simp)
  have qk7_3 : w7.cell? ⟨w4.heap.size, 3, none⟩ = some (.bool true) := Kk7.out.2 3 (by simp)
  go_wp2_with fail
  refine (cadd_any C S P X s3 _ _ HV.out (by omega) (by omega) (by omega) (by omega) Kk7.out Zk37.out).mono ?_
  rintro e w8 ⟨rfl, hb8⟩
  rw [A4.out]
  have Kf8 : Hid (CellsAt w8 (w.heap.size) [.int .i64 C, .int .i64 S, .int .i64 P]) := CellsAt.below (Kf7.out) hb8
  have Ka8 : Hid (CellsAt w8 (w.heap.size + 1) [.int .i64 X, .int .i64 Y]) := CellsAt.below (Ka7.out) hb8
  have Kb8 : Hid (CellsAt w8 (w.heap.size + 2) [.int .i64 Z, .int .i64 t]) := CellsAt.below (Kb7.out) hb8
  have Kk8 : Hid (CellsAt w8 (w4.heap.size) [.int .i64 C, .int .i64 S, .int .i64 P, .bool true]) := CellsAt.below (Kk7.out) hb8
  have Zk38 : Hid (FrzAt w8 (w4.heap.size) 3) := FrzAt.below (Zk37.out) hb8
  have HB8 : Hid (Below w.heap.size w w8) := bwStep (HB7.out) hb8
  clear hb8 yf7 qf7_0 qf7_1 qf7_2 ya7 qa7_0 qa7_1 yb7 qb7_0 qb7_1 yk7 qk7_0 qk7_1 qk7_2 qk7_3
  have yf8 := Kf8.out.1
  have qf8_0 : w8.cell? ⟨w.heap.size, 0, none⟩ = some (.int .i64 C) := Kf8.out.2 0 (by simp)
  have qf8_1 : w8.cell? ⟨w.heap.size, 1, none⟩ = some (.int .i64 S) := Kf8.out.2 1 (by simp)
  have qf8_2 : w8.cell? ⟨w.heap.size, 2, none⟩ = some (.int .i64 P) := Kf8.out.2 2 (by simp)
  have ya8 := Ka8.out.1
  have qa8_0 : w8.cell? ⟨w.heap.size + 1, 0, none⟩ = some (.int .i64 X) := Ka8.out.2 0 (by simp)
  have qa8_1 : w8.cell? ⟨w.heap.size + 1, 1, none⟩ = some (.int .i64 Y) := Ka8.out.2 1 (by simp)
  have yb8 := Kb8.out.1
  have qb8_0 : w8.cell? ⟨w.heap.size + 2, 0, none⟩ = some (.int .i64 Z) := Kb8.out.2 0 (by simp)
  have qb8_1 : w8.cell? ⟨w.heap.size + 2, 1, none⟩ = some (.int .i64 t) := Kb8.out.2 1 (by simp)
  have yk8 := Kk8.out.1
  have qk8_0 : w8.cell? ⟨w4.heap.size, 0, none⟩ = some (.int .i64 C) := Kk8.out.2 0 (by simp)
  have qk8_1 : w8.cell? ⟨w4.heap.size, 1, none⟩ = some (.int .i64 S) := Kk8.out.2 1 (by simp)
  have qk8_2 : w8.cell? ⟨w4.heap.size, 2, none⟩ = some (.int .i64 P) := Kk8.out.2 2 (by simp)
  have qk8_3 : w8.cell? ⟨w4.heap.size, 3, none⟩ = some (.bool true) := Kk8.out.2 3 (by simp)
  go_wp2_with fail
  refine (cadd_any C S P X Y _ _ HV.out (by omega) (by omega) (by omega) (by omega) Kk8.out Zk38.out).mono ?_
  rintro e w9 ⟨rfl, hb9⟩
  rw [A1.out]
  have Kf9 : Hid (CellsAt w9 (w.heap.size) [.int .i64 C, .int .i64 S, .int .i64 P]) := CellsAt.below (Kf8.out) hb9
  have Ka9 : Hid (CellsAt w9 (w.heap.size + 1) [.int .i64 X, .int .i64 Y]) := CellsAt.below (Ka8.out) hb9
  have Kb9 : Hid (CellsAt w9 (w.heap.size + 2) [.int .i64 Z, .int .i64 t]) := CellsAt.below (Kb8.out) hb9
  have Kk9 : Hid (CellsAt w9 (w4.heap.size) [.int .i64 C, .int .i64 S, .int .i64 P, .bool true]) := CellsAt.below (Kk8.out) hb9
  have Zk39 : Hid (FrzAt w9 (w4.heap.size) 3) := FrzAt.below (Zk38.out) hb9
  have HB9 : Hid (Below w.heap.size w w9) := bwStep (HB8.out) hb9
  clear hb9 yf8 qf8_0 qf8_1 qf8_2 ya8 qa8_0 qa8_1 yb8 qb8_0 qb8_1 yk8 qk8_0 qk8_1 qk8_2 qk8_3
  have yf9 := Kf9.out.1
  have qf9_0 : w9.cell? ⟨w.heap.size, 0, none⟩ = some (.int .i64 C) := Kf9.out.2 0 (by simp)
  have qf9_1 : w9.cell? ⟨w.heap.size, 1, none⟩ = some (.int .i64 S) := Kf9.out.2 1 (by simp)
  have qf9_2 : w9.cell? ⟨w.heap.size, 2, none⟩ = some (.int .i64 P) := Kf9.out.2 2 (by simp)
  have ya9 := Ka9.out.1
  have qa9_0 : w9.cell? ⟨w.heap.size + 1, 0, none⟩ = some (.int .i64 X) := Ka9.out.2 0 (by simp)
  have qa9_1 : w9.cell? ⟨w.heap.size + 1, 1, none⟩ = some (.int .i64 Y) := Ka9.out.2 1 (by simp)
  have yb9 := Kb9.out.1
  have qb9_0 : w9.cell? ⟨w.heap.size + 2, 0, none⟩ = some (.int .i64 Z) := Kb9.out.2 0 (by simp)
  have qb9_1 : w9.cell? ⟨w.heap.size + 2, 1, none⟩ = some (.int .i64 t) := Kb9.out.2 1 (by simp)
  have yk9 := Kk9.out.1
  have qk9_0 : w9.cell? ⟨w4.heap.size, 0, none⟩ = some (.int .i64 C) := Kk9.out.2 0 (by simp)
  have qk9_1 : w9.cell? ⟨w4.heap.size, 1, none⟩ = some (.int .i64 S) := Kk9.out.2 1 (by simp)
  have qk9_2 : w9.cell? ⟨w4.heap.size, 2, none⟩ = some (.int .i64 P) := Kk9.out.2 2 (by simp)
  have qk9_3 : w9.cell? ⟨w4.heap.size, 3, none⟩ = some (.bool true) := Kk9.out.2 3 (by simp)
  go_wp2_with fail
  refine (cadd_any C S P Y X _ _ HV.out (by omega) (by omega) (by omega) (by omega) Kk9.out Zk39.out).mono ?_
  rintro e w10 ⟨rfl, hb10⟩
  rw [A5.out]
  have Kf10 : Hid (CellsAt w10 (w.heap.size) [.int .i64 C, .int .i64 S, .int .i64 P]) := CellsAt.below (Kf9.out) hb10
  have Ka10 : Hid (CellsAt w10 (w.heap.size + 1) [.int .i64 X, .int .i64 Y]) := CellsAt.below (Ka9.out) hb10
  have Kb10 : Hid (CellsAt w10 (w.heap.size + 2) [.int .i64 Z, .int .i64 t]) := CellsAt.below (Kb9.out) hb10
  have Kk10 : Hid (CellsAt w10 (w4.heap.size) [.int .i64 C, .int .i64 S, .int .i64 P, .bool true]) := CellsAt.below (Kk9.out) hb10
  have Zk310 : Hid (FrzAt w10 (w4.heap.size) 3) := FrzAt.below (Zk39.out) hb10
  have HB10 : Hid (Below w.heap.size w w10) := bwStep (HB9.out) hb10
  clear hb10 yf9 qf9_0 qf9_1 qf9_2 ya9 qa9_0 qa9_1 yb9 qb9_0 qb9_1 yk9 qk9_0 qk9_1 qk9_2 qk9_3
  have yf10 := Kf10.out.1
  have qf10_0 : w10.cell? ⟨w.heap.size, 0, none⟩ = some (.int .i64 C) := Kf10.out.2 0 (by simp)
  have qf10_1 : w10.cell? ⟨w.heap.size, 1, none⟩ = some (.int .i64 S) := Kf10.out.2 1 (by simp)
  have qf10_2 : w10.cell? ⟨w.heap.size, 2, none⟩ = some (.int .i64 P) := Kf10.out.2 2 (by simp)
  have ya10 := Ka10.out.1
  have qa10_0 : w10.cell? ⟨w.heap.size + 1, 0, none⟩ = some (.int .i64 X) := Ka10.out.2 0 (by simp)
  have qa10_1 : w10.cell? ⟨w.heap.size + 1, 1, none⟩ = some (.int .i64 Y) := Ka10.out.2 1 (by simp)
  have yb10 := Kb10.out.1
  have qb10_0 : w10.cell? ⟨w.heap.size + 2, 0, none⟩ = some (.int .i64 Z) := Kb10.out.2 0 (by simp)
  have qb10_1 : w10.cell? ⟨w.heap.size + 2, 1, none⟩ = some (.int .i64 t) := Kb10.out.2 1 (by simp)
  have yk10 := Kk10.out.1
  have qk10_0 : w10.cell? ⟨w4.heap.size, 0, none⟩ = some (.int .i64 C) := Kk10.out.2 0 (by simp)
  have qk10_1 : w10.cell? ⟨w4.heap.size, 1, none⟩ = some (.int .i64 S) := Kk10.out.2 1 (by simp)
  have qk10_2 : w10.cell? ⟨w4.heap.size, 2, none⟩ = some (.int .i64 P) := Kk10.out.2 2 (by simp)
  have qk10_3 : w10.cell? ⟨w4.heap.size, 3, none⟩ = some (.bool true) := Kk10.out.2 3 (by simp)
  go_wp2_with fail
  refine (cadd_any C S P X 0 _ _ HV.out (by omega) (by omega) (by omega) (by omega) Kk10.out Zk310.out).mono ?_
  rintro e w11 ⟨rfl, hb11⟩
  rw [A6.out]
  have Kf11 : Hid (CellsAt w11 (w.heap.size) [.int .i64 C, .int .i64 S, .int .i64 P]) := CellsAt.below (Kf10.out) hb11
  have Ka11 : Hid (CellsAt w11 (w.heap.size + 1) [.int .i64 X, .int .i64 Y]) := CellsAt.below (Ka10.out) hb11
  have Kb11 : Hid (CellsAt w11 (w.heap.size + 2) [.int .i64 Z, .int .i64 t]) := CellsAt.below (Kb10.out) hb11
  have Kk11 : Hid (CellsAt w11 (w4.heap.size) [.int .i64 C, .int .i64 S, .int .i64 P, .bool true]) := CellsAt.below (Kk10.out) hb11
  have Zk311 : Hid (FrzAt w11 (w4.heap.size) 3) := FrzAt.below (Zk310.out) hb11
  have HB11 : Hid (Below w.heap.size w w11) := bwStep (HB10.out) hb11
  clear hb11 yf10 qf10_0 qf10_1 qf10_2 ya10 qa10_0 qa10_1 yb10 qb10_0 qb10_1 yk10 qk10_0 qk10_1 qk10_2 qk10_3
  have yf11 := Kf11.out.1
  have qf11_0 : w11.cell? ⟨w.heap.size, 0, none⟩ = some (.int .i64 C) := Kf11.out.2 0 (by simp)
  have qf11_1 : w11.cell? ⟨w.heap.size, 1, none⟩ = some (.int .i64 S) := Kf11.out.2 1 (by simp)
  have qf11_2 : w11.cell? ⟨w.heap.size, 2, none⟩ = some (.int .i64 P) := Kf11.out.2 2 (by simp)
  have ya11 := Ka11.out.1
  have qa11_0 : w11.cell? ⟨w.heap.size + 1, 0, none⟩ = some (.int .i64 X) := Ka11.out.2 0 (by simp)
  have qa11_1 : w11.cell? ⟨w.heap.size + 1, 1, none⟩ = some (.int .i64 Y) := Ka11.out.2 1 (by simp)
  have yb11 := Kb11.out.1
  have qb11_0 : w11.cell? ⟨w.heap.size + 2, 0, none⟩ = some (.int .i64 Z) := Kb11.out.2 0 (by simp)
  have qb11_1 : w11.cell? ⟨w.heap.size + 2, 1, none⟩ = some (.int .i64 t) := Kb11.out.2 1 (by simp)
  have yk11 := Kk11.out.1
  have qk11_0 : w11.cell? ⟨w4.heap.size, 0, none⟩ = some (.int .i64 C) := Kk11.out.2 0 (by simp)
  have qk11_1 : w11.cell? ⟨w4.heap.size, 1, none⟩ = some (.int .i64 S) := Kk11.out.2 1 (by simp)
  have qk11_2 : w11.cell? ⟨w4.heap.size, 2, none⟩ = some (.int .i64 P) := Kk11.out.2 2 (by simp)
  have qk11_3 : w11.cell? ⟨w4.heap.size, 3, none⟩ = some (.bool true) := Kk11.out.2 3 (by simp)
  go_wp2_with fail
  refine (cmul_any C S P X Y _ _ HV.out (by omega) (by omega) (by omega) (by omega) Kk11.out Zk311.out).mono ?_
  rintro e w12 ⟨rfl, hb12⟩
  rw [M1.out]
  have Kf12 : Hid (CellsAt w12 (w.heap.size) [.int .i64 C, .int .i64 S, .int .i64 P]) := CellsAt.below (Kf11.out) hb12
  have Ka12 : Hid (CellsAt w12 (w.heap.size + 1) [.int .i64 X, .int .i64 Y]) := CellsAt.below (Ka11.out) hb12
  have Kb12 : Hid (CellsAt w12 (w.heap.size + 2) [.int .i64 Z, .int .i64 t]) := CellsAt.below (Kb11.out) hb12
  have Kk12 : Hid (CellsAt w12 (w4.heap.size) [.int .i64 C, .int .i64 S, .int .i64 P, .bool true]) := CellsAt.below (Kk11.out) hb12
  have Zk312 : Hid (FrzAt w12 (w4.heap.size) 3) := FrzAt.below (Zk311.out) hb12
  have HB12 : Hid (Below w.heap.size w w12) := bwStep (HB11.out) hb12
  clear hb12 yf11 qf11_0 qf11_1 qf11_2 ya11 qa11_0 qa11_1 yb11 qb11_0 qb11_1 yk11 qk11_0 qk11_1 qk11_2 qk11_3
  have yf12 := Kf12.out.1
  have qf12_0 : w12.cell? ⟨w.heap.size, 0, none⟩ = some (.int .i64 C) := Kf12.out.2 0 (by simp)
  have qf12_1 : w12.cell? ⟨w.heap.size, 1, none⟩ = some (.int .i64 S) := Kf12.out.2 1 (by simp)
  have qf12_2 : w12.cell? ⟨w.heap.size, 2, none⟩ = some (.int .i64 P) := Kf12.out.2 2 (by simp)
  have ya12 := Ka12.out.1
  have qa12_0 : w12.cell? ⟨w.heap.size + 1, 0, none⟩ = some (.int .i64 X) := Ka12.out.2 0 (by simp)
  have qa12_1 : w12.cell? ⟨w.heap.size + 1, 1, none⟩ = some (.int .i64 Y) := Ka12.out.2 1 (by simp)
  have yb12 := Kb12.out.1
  have qb12_0 : w12.cell? ⟨w.heap.size + 2, 0, none⟩ = some (.int .i64 Z) := Kb12.out.2 0 (by simp)
  have qb12_1 : w12.cell? ⟨w.heap.size + 2, 1, none⟩ = some (.int .i64 t) := Kb12.out.2 1 (by simp)
  have yk12 := Kk12.out.1
  have qk12_0 : w12.cell? ⟨w4.heap.size, 0, none⟩ = some (.int .i64 C) := Kk12.out.2 0 (by simp)
  have qk12_1 : w12.cell? ⟨w4.heap.size, 1, none⟩ = some (.int .i64 S) := Kk12.out.2 1 (by simp)
  have qk12_2 : w12.cell? ⟨w4.heap.size, 2, none⟩ = some (.int .i64 P) := Kk12.out.2 2 (by simp)
  have qk12_3 : w12.cell? ⟨w4.heap.size, 3, none⟩ = some (.bool true) := Kk12.out.2 3 (by simp)
  go_wp2_with fail
  refine (cmul_any C S P m1 Z _ _ HV.out (by omega) (by omega) (by omega) (by omega) Kk12.out Zk312.out).mono ?_
  rintro e w13 ⟨rfl, hb13⟩
  rw [M2.out]
  have Kf13 : Hid (CellsAt w13 (w.heap.size) [.int .i64 C, .int .i64 S, .int .i64 P]) := CellsAt.below (Kf12.out) hb13
  have Ka13 : Hid (CellsAt w13 (w.heap.size + 1) [.int .i64 X, .int .i64 Y]) := CellsAt.below (Ka12.out) hb13
  have Kb13 : Hid (CellsAt w13 (w.heap.size + 2) [.int .i64 Z, .int .i64 t]) := CellsAt.below (Kb12.out) hb13
  have Kk13 : Hid (CellsAt w13 (w4.heap.size) [.int .i64 C, .int .i64 S, .int .i64 P, .bool true]) := CellsAt.below (Kk12.out) hb13
  have Zk313 : Hid (FrzAt w13 (w4.heap.size) 3) := FrzAt.below (Zk312.out) hb13
  have HB13 : Hid (Below w.heap.size w w13) := bwStep (HB12.out) hb13
  clear hb13 yf12 qf12_0 qf12_1 qf12_2 ya12 qa12_0 qa12_1 yb12 qb12_0 qb12_1 yk12 qk12_0 qk12_1 qk12_2 qk12_3
  have yf13 := Kf13.out.1
  have qf13_0 : w13.cell? ⟨w.heap.size, 0, none⟩ = some (.int .i64 C) := Kf13.out.2 0 (by simp)
  have qf13_1 : w13.cell? ⟨w.heap.size, 1, none⟩ = some (.int .i64 S) := Kf13.out.2 1 (by simp)
  have qf13_2 : w13.cell? ⟨w.heap.size, 2, none⟩ = some (.int .i64 P) := Kf13.out.2 2 (by simp)
  have ya13 := Ka13.out.1
  have qa13_0 : w13.cell? ⟨w.heap.size + 1, 0, none⟩ = some (.int .i64 X) := Ka13.out.2 0 (by simp)
  have qa13_1 : w13.cell? ⟨w.heap.size + 1, 1, none⟩ = some (.int .i64 Y) := Ka13.out.2 1 (by simp)
  have yb13 := Kb13.out.1
  have qb13_0 : w13.cell? ⟨w.heap.size + 2, 0, none⟩ = some (.int .i64 Z) := Kb13.out.2 0 (by simp)
  have qb13_1 : w13.cell? ⟨w.heap.size + 2, 1, none⟩ = some (.int .i64 t) := Kb13.out.2 1 (by simp)
  have yk13 := Kk13.out.1
  have qk13_0 : w13.cell? ⟨w4.heap.size, 0, none⟩ = some (.int .i64 C) := Kk13.out.2 0 (by simp)
  have qk13_1 : w13.cell? ⟨w4.heap.size, 1, none⟩ = some (.int .i64 S) := Kk13.out.2 1 (by simp)
  have qk13_2 : w13.cell? ⟨w4.heap.size, 2, none⟩ = some (.int .i64 P) := Kk13.out.2 2 (by simp)
  have qk13_3 : w13.cell? ⟨w4.heap.size, 3, none⟩ = some (.bool true) := Kk13.out.2 3 (by simp)
  go_wp2_with fail
  refine (cmul_any C S P Y Z _ _ HV.out (by omega) (by omega) (by omega) (by omega) Kk13.out Zk313.out).mono ?_
  rintro e w14 ⟨rfl, hb14⟩
  rw [M3.out]
  have Kf14 : Hid (CellsAt w14 (w.heap.size) [.int .i64 C, .int .i64 S, .int .i64 P]) := CellsAt.below (Kf13.out) hb14
  have Ka14 : Hid (CellsAt w14 (w.heap.size + 1) [.int .i64 X, .int .i64 Y]) := CellsAt.below (Ka13.out) hb14
  have Kb14 : Hid (CellsAt w14 (w.heap.size + 2) [.int .i64 Z, .int .i64 t]) := CellsAt.below (Kb13.out) hb14
  have Kk14 : Hid (CellsAt w14 (w4.heap.size) [.int .i64 C, .int .i64 S, .int .i64 P, .bool true]) := CellsAt.below (Kk13.out) hb14
  have Zk314 : Hid (FrzAt w14 (w4.heap.size) 3) := FrzAt.below (Zk313.out) hb14
  have HB14 : Hid (Below w.heap.size w w14) := bwStep (HB13.out) hb14
  clear hb14 yf13 qf13_0 qf13_1 qf13_2 ya13 qa13_0 qa13_1 yb13 qb13_0 qb13_1 yk13 qk13_0 qk13_1 qk13_2 qk13_3
  have yf14 := Kf14.out.1
  have qf14_0 : w14.cell? ⟨w.heap.size, 0, none⟩ = some (.int .i64 C) := Kf14.out.2 0 (by simp)
  have qf14_1 : w14.cell? ⟨w.heap.size, 1, none⟩ = some (.int .i64 S) := Kf14.out.2 1 (by simp)
  have qf14_2 : w14.cell? ⟨w.heap.size, 2, none⟩ = some (.int .i64 P) := Kf14.out.2 2 (by simp)
  have ya14 := Ka14.out.1
  have qa14_0 : w14.cell? ⟨w.heap.size + 1, 0, none⟩ = some (.int .i64 X) := Ka14.out.2 0 (by simp)
  have qa14_1 : w14.cell? ⟨w.heap.size + 1, 1, none⟩ = some (.int .i64 Y) := Ka14.out.2 1 (by simp)
  have yb14 := Kb14.out.1
  have qb14_0 : w14.cell? ⟨w.heap.size + 2, 0, none⟩ = some (.int .i64 Z) := Kb14.out.2 0 (by simp)
  have qb14_1 : w14.cell? ⟨w.heap.size + 2, 1, none⟩ = some (.int .i64 t) := Kb14.out.2 1 (by simp)
  have yk14 := Kk14.out.1
  have qk14_0 : w14.cell? ⟨w4.heap.size, 0, none⟩ = some (.int .i64 C) := Kk14.out.2 0 (by simp)
  have qk14_1 : w14.cell? ⟨w4.heap.size, 1, none⟩ = some (.int .i64 S) := Kk14.out.2 1 (by simp)
  have qk14_2 : w14.cell? ⟨w4.heap.size, 2, none⟩ = some (.int .i64 P) := Kk14.out.2 2 (by simp)
  have qk14_3 : w14.cell? ⟨w4.heap.size, 3, none⟩ = some (.bool true) := Kk14.out.2 3 (by simp)
  go_wp2_with fail
  refine (cmul_any C S P X m3 _ _ HV.out (by omega) (by omega) (by omega) (by omega) Kk14.out Zk314.out).mono ?_
  rintro e w15 ⟨rfl, hb15⟩
  rw [M4.out]
  have Kf15 : Hid (CellsAt w15 (w.heap.size) [.int .i64 C, .int .i64 S, .int .i64 P]) := CellsAt.below (Kf14.out) hb15
  have Ka15 : Hid (CellsAt w15 (w.heap.size + 1) [.int .i64 X, .int .i64 Y]) := CellsAt.below (Ka14.out) hb15
  have Kb15 : Hid (CellsAt w15 (w.heap.size + 2) [.int .i64 Z, .int .i64 t]) := CellsAt.below (Kb14.out) hb15
  have Kk15 : Hid (CellsAt w15 (w4.heap.size) [.int .i64 C, .int .i64 S, .int .i64 P, .bool true]) := CellsAt.below (Kk14.out) hb15
  have Zk315 : Hid (FrzAt w15 (w4.heap.size) 3) := FrzAt.below (Zk314.out) hb15
  have HB15 : Hid (Below w.heap.size w w15) := bwStep (HB14.out) hb15
  clear hb15 yf14 qf14_0 qf14_1 qf14_2 ya14 qa14_0 qa14_1 yb14 qb14_0 qb14_1 yk14 qk14_0 qk14_1 qk14_2 qk14_3
  have yf15 := Kf15.out.1
  have qf15_0 : w15.cell? ⟨w.heap.size, 0, none⟩ = some (.int .i64 C) := Kf15.out.2 0 (by simp)
  have qf15_1 : w15.cell? ⟨w.heap.size, 1, none⟩ = some (.int .i64 S) := Kf15.out.2 1 (by simp)
  have qf15_2 : w15.cell? ⟨w.heap.size, 2, none⟩ = some (.int .i64 P) := Kf15.out.2 2 (by simp)
  have ya15 := Ka15.out.1
  have qa15_0 : w15.cell? ⟨w.heap.size + 1, 0, none⟩ = some (.int .i64 X) := Ka15.out.2 0 (by simp)
  have qa15_1 : w15.cell? ⟨w.heap.size + 1, 1, none⟩ = some (.int .i64 Y) := Ka15.out.2 1 (by simp)
  have yb15 := Kb15.out.1
  have qb15_0 : w15.cell? ⟨w.heap.size + 2, 0, none⟩ = some (.int .i64 Z) := Kb15.out.2 0 (by simp)
  have qb15_1 : w15.cell? ⟨w.heap.size + 2, 1, none⟩ = some (.int .i64 t) := Kb15.out.2 1 (by simp)
  have yk15 := Kk15.out.1
  have qk15_0 : w15.cell? ⟨w4.heap.size, 0, none⟩ = some (.int .i64 C) := Kk15.out.2 0 (by simp)
  have qk15_1 : w15.cell? ⟨w4.heap.size, 1, none⟩ = some (.int .i64 S) := Kk15.out.2 1 (by simp)
  have qk15_2 : w15.cell? ⟨w4.heap.size, 2, none⟩ = some (.int .i64 P) := Kk15.out.2 2 (by simp)
  have qk15_3 : w15.cell? ⟨w4.heap.size, 3, none⟩ = some (.bool true) := Kk15.out.2 3 (by simp)
  go_wp2_with fail
  refine (cmul_any C S P X Y _ _ HV.out (by omega) (by omega) (by omega) (by omega) Kk15.out Zk315.out).mono ?_
  rintro e w16 ⟨rfl, hb16⟩
  rw [M1.out]
  have Kf16 : Hid (CellsAt w16 (w.heap.size) [.int .i64 C, .int .i64 S, .int .i64 P]) := CellsAt.below (Kf15.out) hb16
  have Ka16 : Hid (CellsAt w16 (w.heap.size + 1) [.int .i64 X, .int .i64 Y]) := CellsAt.below (Ka15.out) hb16
  have Kb16 : Hid (CellsAt w16 (w.heap.size + 2) [.int .i64 Z, .int .i64 t]) := CellsAt.below (Kb15.out) hb16
  have Kk16 : Hid (CellsAt w16 (w4.heap.size) [.int .i64 C, .int .i64 S, .int .i64 P, .bool true]) := CellsAt.below (Kk15.out) hb16
  have Zk316 : Hid (FrzAt w16 (w4.heap.size) 3) := FrzAt.below (Zk315.out) hb16
  have HB16 : Hid (Below w.heap.size w w16) := bwStep (HB15.out) hb16
  clear hb16 yf15 qf15_0 qf15_1 qf15_2 ya15 qa15_0 qa15_1 yb15 qb15_0 qb15_1 yk15 qk15_0 qk15_1 qk15_2 qk15_3
  have yf16 := Kf16.out.1
  have qf16_0 : w16.cell? ⟨w.heap.size, 0, none⟩ = some (.int .i64 C) := Kf16.out.2 0 (by simp)
  have qf16_1 : w16.cell? ⟨w.heap.size, 1, none⟩ = some (.int .i64 S) := Kf16.out.2 1 (by simp)
  have qf16_2 : w16.cell? ⟨w.heap.size, 2, none⟩ = some (.int .i64 P) := Kf16.out.2 2 (by simp)
  have ya16 := Ka16.out.1
  have qa16_0 : w16.cell? ⟨w.heap.size + 1, 0, none⟩ = some (.int .i64 X) := Ka16.out.2 0 (by simp)
  have qa16_1 : w16.cell? ⟨w.heap.size + 1, 1, none⟩ = some (.int .i64 Y) := Ka16.out.2 1 (by simp)
  have yb16 := Kb16.out.1
  have qb16_0 : w16.cell? ⟨w.heap.size + 2, 0, none⟩ = some (.int .i64 Z) := Kb16.out.2 0 (by simp)
  have qb16_1 : w16.cell? ⟨w.heap.size + 2, 1, none⟩ = some (.int .i64 t) := Kb16.out.2 1 (by simp)
  have yk16 := Kk16.out.1
  have qk16_0 : w16.cell? ⟨w4.heap.size, 0, none⟩ = some (.int .i64 C) := Kk16.out.2 0 (by simp)
  have qk16_1 : w16.cell? ⟨w4.heap.size, 1, none⟩ = some (.int .i64 S) := Kk16.out.2 1 (by simp)
  have qk16_2 : w16.cell? ⟨w4.heap.size, 2, none⟩ = some (.int .i64 P) := Kk16.out.2 2 (by simp)
  have qk16_3 : w16.cell? ⟨w4.heap.size, 3, none⟩ = some (.bool true) := Kk16.out.2 3 (by simp)
  go_wp2_with fail
  refine (cmul_any C S P Y X _ _ HV.out (by omega) (by omega) (by omega) (by omega) Kk16.out Zk316.out).mono ?_
  rintro e w17 ⟨rfl, hb17⟩
  rw [M5.out]
  have Kf17 : Hid (CellsAt w17 (w.heap.size) [.int .i64 C, .int .i64 S, .int .i64 P]) := CellsAt.below (Kf16.out) hb17
  have Ka17 : Hid (CellsAt w17 (w.heap.size + 1) [.int .i64 X, .int .i64 Y]) := CellsAt.below (Ka16.out) hb17
  have Kb17 : Hid (CellsAt w17 (w.heap.size + 2) [.int .i64 Z, .int .i64 t]) := CellsAt.below (Kb16.out) hb17
  have Kk17 : Hid (CellsAt w17 (w4.heap.size) [.int .i64 C, .int .i64 S, .int .i64 P, .bool true]) := CellsAt.below (Kk16.out) hb17
  have Zk317 : Hid (FrzAt w17 (w4.heap.size) 3) := FrzAt.below (Zk316.out) hb17
  have HB17 : Hid (Below w.heap.size w w17) := bwStep (HB16.out) hb17
  clear hb17 yf16 qf16_0 qf16_1 qf16_2 ya16 qa16_0 qa16_1 yb16 qb16_0 qb16_1 yk16 qk16_0 qk16_1 qk16_2 qk16_3
  have yf17 := Kf17.out.1
  have qf17_0 : w17.cell? ⟨w.heap.size, 0, none⟩ = some (.int .i64 C) := Kf17.out.2 0 (by simp)
  have qf17_1 : w17.cell? ⟨w.heap.size, 1, none⟩ = some (.int .i64 S) := Kf17.out.2 1 (by simp)
  have qf17_2 : w17.cell? ⟨w.heap.size, 2, none⟩ = some (.int .i64 P) := Kf17.out.2 2 (by simp)
  have ya17 := Ka17.out.1
  have qa17_0 : w17.cell? ⟨w.heap.size + 1, 0, none⟩ = some (.int .i64 X) := Ka17.out.2 0 (by simp)
  have qa17_1 : w17.cell? ⟨w.heap.size + 1, 1, none⟩ = some (.int .i64 Y) := Ka17.out.2 1 (by simp)
  have yb17 := Kb17.out.1
  have qb17_0 : w17.cell? ⟨w.heap.size + 2, 0, none⟩ = some (.int .i64 Z) := Kb17.out.2 0 (by simp)
  have qb17_1 : w17.cell? ⟨w.heap.size + 2, 1, none⟩ = some (.int .i64 t) := Kb17.out.2 1 (by simp)
  have yk17 := Kk17.out.1
  have qk17_0 : w17.cell? ⟨w4.heap.size, 0, none⟩ = some (.int .i64 C) := Kk17.out.2 0 (by simp)
  have qk17_1 : w17.cell? ⟨w4.heap.size, 1, none⟩ = some (.int .i64 S) := Kk17.out.2 1 (by simp)
  have qk17_2 : w17.cell? ⟨w4.heap.size, 2, none⟩ = some (.int .i64 P) := Kk17.out.2 2 (by simp)
  have qk17_3 : w17.cell? ⟨w4.heap.size, 3, none⟩ = some (.bool true) := Kk17.out.2 3 (by simp)
  go_wp2_with fail
  refine (cmul_any C S P X 1 _ _ HV.out (by omega) (by omega) (by omega) (by omega) Kk17.out Zk317.out).mono ?_
  rintro e w18 ⟨rfl, hb18⟩
  rw [M6.out]
  have Kf18 : Hid (CellsAt w18 (w.heap.size) [.int .i64 C, .int .i64 S, .int .i64 P]) := CellsAt.below (Kf17.out) hb18
  have Ka18 : Hid (CellsAt w18 (w.heap.size + 1) [.int .i64 X, .int .i64 Y]) := CellsAt.below (Ka17.out) hb18
  have Kb18 : Hid (CellsAt w18 (w.heap.size + 2) [.int .i64 Z, .int .i64 t]) := CellsAt.below (Kb17.out) hb18
  have Kk18 : Hid (CellsAt w18 (w4.heap.size) [.int .i64 C, .int .i64 S, .int .i64 P, .bool true]) := CellsAt.below (Kk17.out) hb18
  have Zk318 : Hid (FrzAt w18 (w4.heap.size) 3) := FrzAt.below (Zk317.out) hb18
  have HB18 : Hid (Below w.heap.size w w18) := bwStep (HB17.out) hb18
  clear hb18 yf17 qf17_0 qf17_1 qf17_2 ya17 qa17_0 qa17_1 yb17 qb17_0 qb17_1 yk17 qk17_0 qk17_1 qk17_2 qk17_3
  have yf18 := Kf18.out.1
  have qf18_0 : w18.cell? ⟨w.heap.size, 0, none⟩ = some (.int .i64 C) := Kf18.out.2 0 (by simp)
  have qf18_1 : w18.cell? ⟨w.heap.size, 1, none⟩ = some (.int .i64 S) := Kf18.out.2 1 (by simp)
  have qf18_2 : w18.cell? ⟨w.heap.size, 2, none⟩ = some (.int .i64 P) := Kf18.out.2 2 (by simp)
  have ya18 := Ka18.out.1
  have qa18_0 : w18.cell? ⟨w.heap.size + 1, 0, none⟩ = some (.int .i64 X) := Ka18.out.2 0 (by simp)
  have qa18_1 : w18.cell? ⟨w.heap.size + 1, 1, none⟩ = some (.int .i64 Y) := Ka18.out.2 1 (by simp)
  have yb18 := Kb18.out.1
  have qb18_0 : w18.cell? ⟨w.heap.size + 2, 0, none⟩ = some (.int .i64 Z) := Kb18.out.2 0 (by simp)
  have qb18_1 : w18.cell? ⟨w.heap.size + 2, 1, none⟩ = some (.int .i64 t) := Kb18.out.2 1 (by simp)
  have yk18 := Kk18.out.1
  have qk18_0 : w18.cell? ⟨w4.heap.size, 0, none⟩ = some (.int .i64 C) := Kk18.out.2 0 (by simp)
  have qk18_1 : w18.cell? ⟨w4.heap.size, 1, none⟩ = some (.int .i64 S) := Kk18.out.2 1 (by simp)
  have qk18_2 : w18.cell? ⟨w4.heap.size, 2, none⟩ = some (.int .i64 P) := Kk18.out.2 2 (by simp)
  have qk18_3 : w18.cell? ⟨w4.heap.size, 3, none⟩ = some (.bool true) := Kk18.out.2 3 (by simp)
  go_wp2_with fail
  refine (cmul_any C S P X 0 _ _ HV.out (by omega) (by omega) (by omega) (by omega) Kk18.out Zk318.out).mono ?_
  rintro e w19 ⟨rfl, hb19⟩
  rw [M7.out]
  have Kf19 : Hid (CellsAt w19 (w.heap.size) [.int .i64 C, .int .i64 S, .int .i64 P]) := CellsAt.below (Kf18.out) hb19
  have Ka19 : Hid (CellsAt w19 (w.heap.size + 1) [.int .i64 X, .int .i64 Y]) := CellsAt.below (Ka18.out) hb19
  have Kb19 : Hid (CellsAt w19 (w.heap.size + 2) [.int .i64 Z, .int .i64 t]) := CellsAt.below (Kb18.out) hb19
  have Kk19 : Hid (CellsAt w19 (w4.heap.size) [.int .i64 C, .int .i64 S, .int .i64 P, .bool true]) := CellsAt.below (Kk18.out) hb19
  have Zk319 : Hid (FrzAt w19 (w4.heap.size) 3) := FrzAt.below (Zk318.out) hb19
  have HB19 : Hid (Below w.heap.size w w19) := bwStep (HB18.out) hb19
  clear hb19 yf18 qf18_0 qf18_1 qf18_2 ya18 qa18_0 qa18_1 yb18 qb18_0 qb18_1 yk18 qk18_0 qk18_1 qk18_2 qk18_3
  have yf19 := Kf19.out.1
  have qf19_0 : w19.cell? ⟨w.heap.size, 0, none⟩ = some (.int .i64 C) := Kf19.out.2 0 (by simp)
  have qf19_1 : w19.cell? ⟨w.heap.size, 1, none⟩ = some (.int .i64 S) := Kf19.out.2 1 (by simp)
  have qf19_2 : w19.cell? ⟨w.heap.size, 2, none⟩ = some (.int .i64 P) := Kf19.out.2 2 (by simp)
  have ya19 := Ka19.out.1
  have qa19_0 : w19.cell? ⟨w.heap.size + 1, 0, none⟩ = some (.int .i64 X) := Ka19.out.2 0 (by simp)
  have qa19_1 : w19.cell? ⟨w.heap.size + 1, 1, none⟩ = some (.int .i64 Y) := Ka19.out.2 1 (by simp)
  have yb19 := Kb19.out.1
  have qb19_0 : w19.cell? ⟨w.heap.size + 2, 0, none⟩ = some (.int .i64 Z) := Kb19.out.2 0 (by simp)
  have qb19_1 : w19.cell? ⟨w.heap.size + 2, 1, none⟩ = some (.int .i64 t) := Kb19.out.2 1 (by simp)
  have yk19 := Kk19.out.1
  have qk19_0 : w19.cell? ⟨w4.heap.size, 0, none⟩ = some (.int .i64 C) := Kk19.out.2 0 (by simp)
  have qk19_1 : w19.cell? ⟨w4.heap.size, 1, none⟩ = some (.int .i64 S) := Kk19.out.2 1 (by simp)
  have qk19_2 : w19.cell? ⟨w4.heap.size, 2, none⟩ = some (.int .i64 P) := Kk19.out.2 2 (by simp)
  have qk19_3 : w19.cell? ⟨w4.heap.size, 3, none⟩ = some (.bool true) := Kk19.out.2 3 (by simp)
  go_wp2_with fail
  refine (cadd_any C S P Y Z _ _ HV.out (by omega) (by omega) (by omega) (by omega) Kk19.out Zk319.out).mono ?_
  rintro e w20 ⟨rfl, hb20⟩
  rw [A3.out]
  have Kf20 : Hid (CellsAt w20 (w.heap.size) [.int .i64 C, .int .i64 S, .int .i64 P]) := CellsAt.below (Kf19.out) hb20
  have Ka20 : Hid (CellsAt w20 (w.heap.size + 1) [.int .i64 X, .int .i64 Y]) := CellsAt.below (Ka19.out) hb20
  have Kb20 : Hid (CellsAt w20 (w.heap.size + 2) [.int .i64 Z, .int .i64 t]) := CellsAt.below (Kb19.out) hb20
  have Kk20 : Hid (CellsAt w20 (w4.heap.size) [.int .i64 C, .int .i64 S, .int .i64 P, .bool true]) := CellsAt.below (Kk19.out) hb20
  have Zk320 : Hid (FrzAt w20 (w4.heap.size) 3) := FrzAt.below (Zk319.out) hb20
  have HB20 : Hid (Below w.heap.size w w20) := bwStep (HB19.out) hb20
  clear hb20 yf19 qf19_0 qf19_1 qf19_2 ya19 qa19_0 qa19_1 yb19 qb19_0 qb19_1 yk19 qk19_0 qk19_1 qk19_2 qk19_3
  have yf20 := Kf20.out.1
  have qf20_0 : w20.cell? ⟨w.heap.size, 0, none⟩ = some (.int .i64 C) := Kf20.out.2 0 (by simp)
  have qf20_1 : w20.cell? ⟨w.heap.size, 1, none⟩ = some (.int .i64 S) := Kf20.out.2 1 (by simp)
  have qf20_2 : w20.cell? ⟨w.heap.size, 2, none⟩ = some (.int .i64 P) := Kf20.out.2 2 (by simp)
  have ya20 := Ka20.out.1
  have qa20_0 : w20.cell? ⟨w.heap.size + 1, 0, none⟩ = some (.int .i64 X) := Ka20.out.2 0 (by simp)
  have qa20_1 : w20.cell? ⟨w.heap.size + 1, 1, none⟩ = some (.int .i64 Y) := Ka20.out.2 1 (by simp)
  have yb20 := Kb20.out.1
  have qb20_0 : w20.cell? ⟨w.heap.size + 2, 0, none⟩ = some (.int .i64 Z) := Kb20.out.2 0 (by simp)
  have qb20_1 : w20.cell? ⟨w.heap.size + 2, 1, none⟩ = some (.int .i64 t) := Kb20.out.2 1 (by simp)
  have yk20 := Kk20.out.1
  have qk20_0 : w20.cell? ⟨w4.heap.size, 0, none⟩ = some (.int .i64 C) := Kk20.out.2 0 (by simp)
  have qk20_1 : w20.cell? ⟨w4.heap.size, 1, none⟩ = some (.int .i64 S) := Kk20.out.2 1 (by simp)
  have qk20_2 : w20.cell? ⟨w4.heap.size, 2, none⟩ = some (.int .i64 P) := Kk20.out.2 2 (by simp)
  have qk20_3 : w20.cell? ⟨w4.heap.size, 3, none⟩ = some (.bool true) := Kk20.out.2 3 (by simp)
  go_wp2_with fail
  refine (cmul_any C S P X s3 _ _ HV.out (by omega) (by omega) (by omega) (by omega) Kk20.out Zk320.out).mono ?_
  rintro e w21 ⟨rfl, hb21⟩
  rw [B1.out]
  have Kf21 : Hid (CellsAt w21 (w.heap.size) [.int .i64 C, .int .i64 S, .int .i64 P]) := CellsAt.below (Kf20.out) hb21
  have Ka21 : Hid (CellsAt w21 (w.heap.size + 1) [.int .i64 X, .int .i64 Y]) := CellsAt.below (Ka20.out) hb21
  have Kb21 : Hid (CellsAt w21 (w.heap.size + 2) [.int .i64 Z, .int .i64 t]) := CellsAt.below (Kb20.out) hb21
  have Kk21 : Hid (CellsAt w21 (w4.heap.size) [.int .i64 C, .int .i64 S, .int .i64 P, .bool true]) := CellsAt.below (Kk20.out) hb21
  have Zk321 : Hid (FrzAt w21 (w4.heap.size) 3) := FrzAt.below (Zk320.out) hb21
  have HB21 : Hid (Below w.heap.size w w21) := bwStep (HB20.out) hb21
  clear hb21 yf20 qf20_0 qf20_1 qf20_2 ya20 qa20_0 qa20_1 yb20 qb20_0 qb20_1 yk20 qk20_0 qk20_1 qk20_2 qk20_3
  have yf21 := Kf21.out.1
  have qf21_0 : w21.cell? ⟨w.heap.size, 0, none⟩ = some (.int .i64 C) := Kf21.out.2 0 (by simp)
  have qf21_1 : w21.cell? ⟨w.heap.size, 1, none⟩ = some (.int .i64 S) := Kf21.out.2 1 (by simp)
  have qf21_2 : w21.cell? ⟨w.heap.size, 2, none⟩ = some (.int .i64 P) := Kf21.out.2 2 (by simp)
  have ya21 := Ka21.out.1
  have qa21_0 : w21.cell? ⟨w.heap.size + 1, 0, none⟩ = some (.int .i64 X) := Ka21.out.2 0 (by simp)
  have qa21_1 : w21.cell? ⟨w.heap.size + 1, 1, none⟩ = some (.int .i64 Y) := Ka21.out.2 1 (by simp)
  have yb21 := Kb21.out.1
  have qb21_0 : w21.cell? ⟨w.heap.size + 2, 0, none⟩ = some (.int .i64 Z) := Kb21.out.2 0 (by simp)
  have qb21_1 : w21.cell? ⟨w.heap.size + 2, 1, none⟩ = some (.int .i64 t) := Kb21.out.2 1 (by simp)
  have yk21 := Kk21.out.1
  have qk21_0 : w21.cell? ⟨w4.heap.size, 0, none⟩ = some (.int .i64 C) := Kk21.out.2 0 (by simp)
  have qk21_1 : w21.cell? ⟨w4.heap.size, 1, none⟩ = some (.int .i64 S) := Kk21.out.2 1 (by simp)
  have qk21_2 : w21.cell? ⟨w4.heap.size, 2, none⟩ = some (.int .i64 P) := Kk21.out.2 2 (by simp)
  have qk21_3 : w21.cell? ⟨w4.heap.size, 3, none⟩ = some (.bool true) := Kk21.out.2 3 (by simp)
  go_wp2_with fail
  refine (cmul_any C S P X Y _ _ HV.out (by omega) (by omega) (by omega) (by omega) Kk21.out Zk321.out).mono ?_
  rintro e w22 ⟨rfl, hb22⟩
  rw [M1.out]
  have Kf22 : Hid (CellsAt w22 (w.heap.size) [.int .i64 C, .int .i64 S, .int .i64 P]) := CellsAt.below (Kf21.out) hb22
  have Ka22 : Hid (CellsAt w22 (w.heap.size + 1) [.int .i64 X, .int .i64 Y]) := CellsAt.below (Ka21.out) hb22
  have Kb22 : Hid (CellsAt w22 (w.heap.size + 2) [.int .i64 Z, .int .i64 t]) := CellsAt.below (Kb21.out) hb22
  have Kk22 : Hid (CellsAt w22 (w4.heap.size) [.int .i64 C, .int .i64 S, .int .i64 P, .bool true]) := CellsAt.below (Kk21.out) hb22
  have Zk322 : Hid (FrzAt w22 (w4.heap.size) 3) := FrzAt.below (Zk321.out) hb22
  have HB22 : Hid (Below w.heap.size w w22) := bwStep (HB21.out) hb22
  clear hb22 yf21 qf21_0 qf21_1 qf21_2 ya21 qa21_0 qa21_1 yb21 qb21_0 qb21_1 yk21 qk21_0 qk21_1 qk21_2 qk21_3
  have yf22 := Kf22.out.1
  have qf22_0 : w22.cell? ⟨w.heap.size, 0, none⟩ = some (.int .i64 C) := Kf22.out.2 0 (by simp)
  have qf22_1 : w22.cell? ⟨w.heap.size, 1, none⟩ = some (.int .i64 S) := Kf22.out.2 1 (by simp)
  have qf22_2 : w22.cell? ⟨w.heap.size, 2, none⟩ = some (.int .i64 P) := Kf22.out.2 2 (by simp)
  have ya22 := Ka22.out.1
  have qa22_0 : w22.cell? ⟨w.heap.size + 1, 0, none⟩ = some (.int .i64 X) := Ka22.out.2 0 (by simp)
  have qa22_1 : w22.cell? ⟨w.heap.size + 1, 1, none⟩ = some (.int .i64 Y) := Ka22.out.2 1 (by simp)
  have yb22 := Kb22.out.1
  have qb22_0 : w22.cell? ⟨w.heap.size + 2, 0, none⟩ = some (.int .i64 Z) := Kb22.out.2 0 (by simp)
  have qb22_1 : w22.cell? ⟨w.heap.size + 2, 1, none⟩ = some (.int .i64 t) := Kb22.out.2 1 (by simp)
  have yk22 := Kk22.out.1
  have qk22_0 : w22.cell? ⟨w4.heap.size, 0, none⟩ = some (.int .i64 C) := Kk22.out.2 0 (by simp)
  have qk22_1 : w22.cell? ⟨w4.heap.size, 1, none⟩ = some (.int .i64 S) := Kk22.out.2 1 (by simp)
  have qk22_2 : w22.cell? ⟨w4.heap.size, 2, none⟩ = some (.int .i64 P) := Kk22.out.2 2 (by simp)
  have qk22_3 : w22.cell? ⟨w4.heap.size, 3, none⟩ = some (.bool true) := Kk22.out.2 3 (by simp)
  go_wp2_with fail
  refine (cmul_any C S P X Z _ _ HV.out (by omega) (by omega) (by omega) (by omega) Kk22.out Zk322.out).mono ?_
  rintro e w23 ⟨rfl, hb23⟩
  rw [B2.out]
  have Kf23 : Hid (CellsAt w23 (w.heap.size) [.int .i64 C, .int .i64 S, .int .i64 P]) := CellsAt.below (Kf22.out) hb23
  have Ka23 : Hid (CellsAt w23 (w.heap.size + 1) [.int .i64 X, .int .i64 Y]) := CellsAt.below (Ka22.out) hb23
  have Kb23 : Hid (CellsAt w23 (w.heap.size + 2) [.int .i64 Z, .int .i64 t]) := CellsAt.below (Kb22.out) hb23
  have Kk23 : Hid (CellsAt w23 (w4.heap.size) [.int .i64 C, .int .i64 S, .int .i64 P, .bool true]) := CellsAt.below (Kk22.out) hb23
  have Zk323 : Hid (FrzAt w23 (w4.heap.size) 3) := FrzAt.below (Zk322.out) hb23
  have HB23 : Hid (Below w.heap.size w w23) := bwStep (HB22.out) hb23
  clear hb23 yf22 qf22_0 qf22_1 qf22_2 ya22 qa22_0 qa22_1 yb22 qb22_0 qb22_1 yk22 qk22_0 qk22_1 qk22_2 qk22_3
  have yf23 := Kf23.out.1
  have qf23_0 : w23.cell? ⟨w.heap.size, 0, none⟩ = some (.int .i64 C) := Kf23.out.2 0 (by simp)
  have qf23_1 : w23.cell? ⟨w.heap.size, 1, none⟩ = some (.int .i64 S) := Kf23.out.2 1 (by simp)
  have qf23_2 : w23.cell? ⟨w.heap.size, 2, none⟩ = some (.int .i64 P) := Kf23.out.2 2 (by simp)
  have ya23 := Ka23.out.1
  have qa23_0 : w23.cell? ⟨w.heap.size + 1, 0, none⟩ = some (.int .i64 X) := Ka23.out.2 0 (by simp)
  have qa23_1 : w23.cell? ⟨w.heap.size + 1, 1, none⟩ = some (.int .i64 Y) := Ka23.out.2 1 (by simp)
  have yb23 := Kb23.out.1
  have qb23_0 : w23.cell? ⟨w.heap.size + 2, 0, none⟩ = some (.int .i64 Z) := Kb23.out.2 0 (by simp)
  have qb23_1 : w23.cell? ⟨w.heap.size + 2, 1, none⟩ = some (.int .i64 t) := Kb23.out.2 1 (by simp)
  have yk23 := Kk23.out.1
  have qk23_0 : w23.cell? ⟨w4.heap.size, 0, none⟩ = some (.int .i64 C) := Kk23.out.2 0 (by simp)
  have qk23_1 : w23.cell? ⟨w4.heap.size, 1, none⟩ = some (.int .i64 S) := Kk23.out.2 1 (by simp)
  have qk23_2 : w23.cell? ⟨w4.heap.size, 2, none⟩ = some (.int .i64 P) := Kk23.out.2 2 (by simp)
  have qk23_3 : w23.cell? ⟨w4.heap.size, 3, none⟩ = some (.bool true) := Kk23.out.2 3 (by simp)
  go_wp2_with fail
  refine (cadd_any C S P m1 m4 _ _ HV.out (by omega) (by omega) (by omega) (by omega) Kk23.out Zk323.out).mono ?_
  rintro e w24 ⟨rfl, hb24⟩
  rw [B3.out]
  have Kf24 : Hid (CellsAt w24 (w.heap.size) [.int .i64 C, .int .i64 S, .int .i64 P]) := CellsAt.below (Kf23.out) hb24
  have Ka24 : Hid (CellsAt w24 (w.heap.size + 1) [.int .i64 X, .int .i64 Y]) := CellsAt.below (Ka23.out) hb24
  have Kb24 : Hid (CellsAt w24 (w.heap.size + 2) [.int .i64 Z, .int .i64 t]) := CellsAt.below (Kb23.out) hb24
  have Kk24 : Hid (CellsAt w24 (w4.heap.size) [.int .i64 C, .int .i64 S, .int .i64 P, .bool true]) := CellsAt.below (Kk23.out) hb24
  have Zk324 : Hid (FrzAt w24 (w4.heap.size) 3) := FrzAt.below (Zk323.out) hb24
  have HB24 : Hid (Below w.heap.size w w24) := bwStep (HB23.out) hb24
  clear hb24 yf23 qf23_0 qf23_1 qf23_2 ya23 qa23_0 qa23_1 yb23 qb23_0 qb23_1 yk23 qk23_0 qk23_1 qk23_2 qk23_3
  have yf24 := Kf24.out.1
  have qf24_0 : w24.cell? ⟨w.heap.size, 0, none⟩ = some (.int .i64 C) := Kf24.out.2 0 (by simp)
  have qf24_1 : w24.cell? ⟨w.heap.size, 1, none⟩ = some (.int .i64 S) := Kf24.out.2 1 (by simp)
  have qf24_2 : w24.cell? ⟨w.heap.size, 2, none⟩ = some (.int .i64 P) := Kf24.out.2 2 (by simp)
  have ya24 := Ka24.out.1
  have qa24_0 : w24.cell? ⟨w.heap.size + 1, 0, none⟩ = some (.int .i64 X) := Ka24.out.2 0 (by simp)
  have qa24_1 : w24.cell? ⟨w.heap.size + 1, 1, none⟩ = some (.int .i64 Y) := Ka24.out.2 1 (by simp)
  have yb24 := Kb24.out.1
  have qb24_0 : w24.cell? ⟨w.heap.size + 2, 0, none⟩ = some (.int .i64 Z) := Kb24.out.2 0 (by simp)
  have qb24_1 : w24.cell? ⟨w.heap.size + 2, 1, none⟩ = some (.int .i64 t) := Kb24.out.2 1 (by simp)
  have yk24 := Kk24.out.1
  have qk24_0 : w24.cell? ⟨w4.heap.size, 0, none⟩ = some (.int .i64 C) := Kk24.out.2 0 (by simp)
  have qk24_1 : w24.cell? ⟨w4.heap.size, 1, none⟩ = some (.int .i64 S) := Kk24.out.2 1 (by simp)
  have qk24_2 : w24.cell? ⟨w4.heap.size, 2, none⟩ = some (.int .i64 P) := Kk24.out.2 2 (by simp)
  have qk24_3 : w24.cell? ⟨w4.heap.size, 3, none⟩ = some (.bool true) := Kk24.out.2 3 (by simp)
  go_wp2_with fail
  refine (Sub_any C S P 0 X _ (by omega) hP).mono ?_
  rintro e w25 ⟨rfl, hb25⟩
  rw [RS.out]
  have Kf25 : Hid (CellsAt w25 (w.heap.size) [.int .i64 C, .int .i64 S, .int .i64 P]) := CellsAt.below (Kf24.out) hb25
  have Ka25 : Hid (CellsAt w25 (w.heap.size + 1) [.int .i64 X, .int .i64 Y]) := CellsAt.below (Ka24.out) hb25
  have Kb25 : Hid (CellsAt w25 (w.heap.size + 2) [.int .i64 Z, .int .i64 t]) := CellsAt.below (Kb24.out) hb25
  have Kk25 : Hid (CellsAt w25 (w4.heap.size) [.int .i64 C, .int .i64 S, .int .i64 P, .bool true]) := CellsAt.below (Kk24.out) hb25
  have Zk325 : Hid (FrzAt w25 (w4.heap.size) 3) := FrzAt.below (Zk324.out) hb25
  have HB25 : Hid (Below w.heap.size w w25) := bwStep (HB24.out) hb25
  clear hb25 yf24 qf24_0 qf24_1 qf24_2 ya24 qa24_0 qa24_1 yb24 qb24_0 qb24_1 yk24 qk24_0 qk24_1 qk24_2 qk24_3
  have yf25 := Kf25.out.1
  have qf25_0 : w25.cell? ⟨w.heap.size, 0, none⟩ = some (.int .i64 C) := Kf25.out.2 0 (by simp)
  have qf25_1 : w25.cell? ⟨w.heap.size, 1, none⟩ = some (.int .i64 S) := Kf25.out.2 1 (by simp)
  have qf25_2 : w25.cell? ⟨w.heap.size, 2, none⟩ = some (.int .i64 P) := Kf25.out.2 2 (by simp)
  have ya25 := Ka25.out.1
  have qa25_0 : w25.cell? ⟨w.heap.size + 1, 0, none⟩ = some (.int .i64 X) := Ka25.out.2 0 (by simp)
  have qa25_1 : w25.cell? ⟨w.heap.size + 1, 1, none⟩ = some (.int .i64 Y) := Ka25.out.2 1 (by simp)
  have yb25 := Kb25.out.1
  have qb25_0 : w25.cell? ⟨w.heap.size + 2, 0, none⟩ = some (.int .i64 Z) := Kb25.out.2 0 (by simp)
  have qb25_1 : w25.cell? ⟨w.heap.size + 2, 1, none⟩ = some (.int .i64 t) := Kb25.out.2 1 (by simp)
  have yk25 := Kk25.out.1
  have qk25_0 : w25.cell? ⟨w4.heap.size, 0, none⟩ = some (.int .i64 C) := Kk25.out.2 0 (by simp)
  have qk25_1 : w25.cell? ⟨w4.heap.size, 1, none⟩ = some (.int .i64 S) := Kk25.out.2 1 (by simp)
  have qk25_2 : w25.cell? ⟨w4.heap.size, 2, none⟩ = some (.int .i64 P) := Kk25.out.2 2 (by simp)
  have qk25_3 : w25.cell? ⟨w4.heap.size, 3, none⟩ = some (.bool true) := Kk25.out.2 3 (by simp)
  go_wp2_with fail
  refine (Sub_any C S P X Y _ (by omega) hP).mono ?_
  rintro e w26 ⟨rfl, hb26⟩
  rw [RD.out]
  have Kf26 : Hid (CellsAt w26 (w.heap.size) [.int .i64 C, .int .i64 S, .int .i64 P]) := CellsAt.below (Kf25.out) hb26
  have Ka26 : Hid (CellsAt w26 (w.heap.size + 1) [.int .i64 X, .int .i64 Y]) := CellsAt.below (Ka25.out) hb26
  have Kb26 : Hid (CellsAt w26 (w.heap.size + 2) [.int .i64 Z, .int .i64 t]) := CellsAt.below (Kb25.out) hb26
  have Kk26 : Hid (CellsAt w26 (w4.heap.size) [.int .i64 C, .int .i64 S, .int .i64 P, .bool true]) := CellsAt.below (Kk25.out) hb26
  have Zk326 : Hid (FrzAt w26 (w4.heap.size) 3) := FrzAt.below (Zk325.out) hb26
  have HB26 : Hid (Below w.heap.size w w26) := bwStep (HB25.out) hb26
  clear hb26 yf25 qf25_0 qf25_1 qf25_2 ya25 qa25_0 qa25_1 yb25 qb25_0 qb25_1 yk25 qk25_0 qk25_1 qk25_2 qk25_3
  have yf26 := Kf26.out.1
  have qf26_0 : w26.cell? ⟨w.heap.size, 0, none⟩ = some (.int .i64 C) := Kf26.out.2 0 (by simp)
  have qf26_1 : w26.cell? ⟨w.heap.size, 1, none⟩ = some (.int .i64 S) := Kf26.out.2 1 (by simp)
  have qf26_2 : w26.cell? ⟨w.heap.size, 2, none⟩ = some (.int .i64 P) := Kf26.out.2 2 (by simp)
  have ya26 := Ka26.out.1
  have qa26_0 : w26.cell? ⟨w.heap.size + 1, 0, none⟩ = some (.int .i64 X) := Ka26.out.2 0 (by simp)
  have qa26_1 : w26.cell? ⟨w.heap.size + 1, 1, none⟩ = some (.int .i64 Y) := Ka26.out.2 1 (by simp)
  have yb26 := Kb26.out.1
  have qb26_0 : w26.cell? ⟨w.heap.size + 2, 0, none⟩ = some (.int .i64 Z) := Kb26.out.2 0 (by simp)
  have qb26_1 : w26.cell? ⟨w.heap.size + 2, 1, none⟩ = some (.int .i64 t) := Kb26.out.2 1 (by simp)
  have yk26 := Kk26.out.1
  have qk26_0 : w26.cell? ⟨w4.heap.size, 0, none⟩ = some (.int .i64 C) := Kk26.out.2 0 (by simp)
  have qk26_1 : w26.cell? ⟨w4.heap.size, 1, none⟩ = some (.int .i64 S) := Kk26.out.2 1 (by simp)
  have qk26_2 : w26.cell? ⟨w4.heap.size, 2, none⟩ = some (.int .i64 P) := Kk26.out.2 2 (by simp)
  have qk26_3 : w26.cell? ⟨w4.heap.size, 3, none⟩ = some (.bool true) := Kk26.out.2 3 (by simp)
  go_wp2_with fail
  refine (cadd_any C S P X n1 _ _ HV.out (by omega) (by omega) (by omega) (by omega) Kk26.out Zk326.out).mono ?_
  rintro e w27 ⟨rfl, hb27⟩
  rw [N1.out]
  have Kf27 : Hid (CellsAt w27 (w.heap.size) [.int .i64 C, .int .i64 S, .int .i64 P]) := CellsAt.below (Kf26.out) hb27
  have Ka27 : Hid (CellsAt w27 (w.heap.size + 1) [.int .i64 X, .int .i64 Y]) := CellsAt.below (Ka26.out) hb27
  have Kb27 : Hid (CellsAt w27 (w.heap.size + 2) [.int .i64 Z, .int .i64 t]) := CellsAt.below (Kb26.out) hb27
  have Kk27 : Hid (CellsAt w27 (w4.heap.size) [.int .i64 C, .int .i64 S, .int .i64 P, .bool true]) := CellsAt.below (Kk26.out) hb27
  have Zk327 : Hid (FrzAt w27 (w4.heap.size) 3) := FrzAt.below (Zk326.out) hb27
  have HB27 : Hid (Below w.heap.size w w27) := bwStep (HB26.out) hb27
  clear hb27 yf26 qf26_0 qf26_1 qf26_2 ya26 qa26_0 qa26_1 yb26 qb26_0 qb26_1 yk26 qk26_0 qk26_1 qk26_2 qk26_3
  have yf27 := Kf27.out.1
  have qf27_0 : w27.cell? ⟨w.heap.size, 0, none⟩ = some (.int .i64 C) := Kf27.out.2 0 (by simp)
  have qf27_1 : w27.cell? ⟨w.heap.size, 1, none⟩ = some (.int .i64 S) := Kf27.out.2 1 (by simp)
  have qf27_2 : w27.cell? ⟨w.heap.size, 2, none⟩ = some (.int .i64 P) := Kf27.out.2 2 (by simp)
  have ya27 := Ka27.out.1
  have qa27_0 : w27.cell? ⟨w.heap.size + 1, 0, none⟩ = some (.int .i64 X) := Ka27.out.2 0 (by simp)
  have qa27_1 : w27.cell? ⟨w.heap.size + 1, 1, none⟩ = some (.int .i64 Y) := Ka27.out.2 1 (by simp)
  have yb27 := Kb27.out.1
  have qb27_0 : w27.cell? ⟨w.heap.size + 2, 0, none⟩ = some (.int .i64 Z) := Kb27.out.2 0 (by simp)
  have qb27_1 : w27.cell? ⟨w.heap.size + 2, 1, none⟩ = some (.int .i64 t) := Kb27.out.2 1 (by simp)
  have yk27 := Kk27.out.1
  have qk27_0 : w27.cell? ⟨w4.heap.size, 0, none⟩ = some (.int .i64 C) := Kk27.out.2 0 (by simp)
  have qk27_1 : w27.cell? ⟨w4.heap.size, 1, none⟩ = some (.int .i64 S) := Kk27.out.2 1 (by simp)
  have qk27_2 : w27.cell? ⟨w4.heap.size, 2, none⟩ = some (.int .i64 P) := Kk27.out.2 2 (by simp)
  have qk27_3 : w27.cell? ⟨w4.heap.size, 3, none⟩ = some (.bool true) := Kk27.out.2 3 (by simp)
  go_wp2_with fail
  refine (cadd_any C S P d1 Y _ _ HV.out (by omega) (by omega) (by omega) (by omega) Kk27.out Zk327.out).mono ?_
  rintro e w28 ⟨rfl, hb28⟩
  rw [D1.out]
  have Kf28 : Hid (CellsAt w28 (w.heap.size) [.int .i64 C, .int .i64 S, .int .i64 P]) := CellsAt.below (Kf27.out) hb28
  have Ka28 : Hid (CellsAt w28 (w.heap.size + 1) [.int .i64 X, .int .i64 Y]) := CellsAt.below (Ka27.out) hb28
  have Kb28 : Hid (CellsAt w28 (w.heap.size + 2) [.int .i64 Z, .int .i64 t]) := CellsAt.below (Kb27.out) hb28
  have Kk28 : Hid (CellsAt w28 (w4.heap.size) [.int .i64 C, .int .i64 S, .int .i64 P, .bool true]) := CellsAt.below (Kk27.out) hb28
  have Zk328 : Hid (FrzAt w28 (w4.heap.size) 3) := FrzAt.below (Zk327.out) hb28
  have HB28 : Hid (Below w.heap.size w w28) := bwStep (HB27.out) hb28
  clear hb28 yf27 qf27_0 qf27_1 qf27_2 ya27 qa27_0 qa27_1 yb27 qb27_0 qb27_1 yk27 qk27_0 qk27_1 qk27_2 qk27_3
  have yf28 := Kf28.out.1
  have qf28_0 : w28.cell? ⟨w.heap.size, 0, none⟩ = some (.int .i64 C) := Kf28.out.2 0 (by simp)
  have qf28_1 : w28.cell? ⟨w.heap.size, 1, none⟩ = some (.int .i64 S) := Kf28.out.2 1 (by simp)
  have qf28_2 : w28.cell? ⟨w.heap.size, 2, none⟩ = some (.int .i64 P) := Kf28.out.2 2 (by simp)
  have ya28 := Ka28.out.1
  have qa28_0 : w28.cell? ⟨w.heap.size + 1, 0, none⟩ = some (.int .i64 X) := Ka28.out.2 0 (by simp)
  have qa28_1 : w28.cell? ⟨w.heap.size + 1, 1, none⟩ = some (.int .i64 Y) := Ka28.out.2 1 (by simp)
  have yb28 := Kb28.out.1
  have qb28_0 : w28.cell? ⟨w.heap.size + 2, 0, none⟩ = some (.int .i64 Z) := Kb28.out.2 0 (by simp)
  have qb28_1 : w28.cell? ⟨w.heap.size + 2, 1, none⟩ = some (.int .i64 t) := Kb28.out.2 1 (by simp)
  have yk28 := Kk28.out.1
  have qk28_0 : w28.cell? ⟨w4.heap.size, 0, none⟩ = some (.int .i64 C) := Kk28.out.2 0 (by simp)
  have qk28_1 : w28.cell? ⟨w4.heap.size, 1, none⟩ = some (.int .i64 S) := Kk28.out.2 1 (by simp)
  have qk28_2 : w28.cell? ⟨w4.heap.size, 2, none⟩ = some (.int .i64 P) := Kk28.out.2 2 (by simp)
  have qk28_3 : w28.cell? ⟨w4.heap.size, 3, none⟩ = some (.bool true) := Kk28.out.2 3 (by simp)
  go_wp2_with fail
  refine (Inv_any C S P X _ (by omega) hP).mono ?_
  rintro e w29 ⟨rfl, hb29⟩
  rw [RI.out]
  have Kf29 : Hid (CellsAt w29 (w.heap.size) [.int .i64 C, .int .i64 S, .int .i64 P]) := CellsAt.below (Kf28.out) hb29
  have Ka29 : Hid (CellsAt w29 (w.heap.size + 1) [.int .i64 X, .int .i64 Y]) := CellsAt.below (Ka28.out) hb29
  have Kb29 : Hid (CellsAt w29 (w.heap.size + 2) [.int .i64 Z, .int .i64 t]) := CellsAt.below (Kb28.out) hb29
  have Kk29 : Hid (CellsAt w29 (w4.heap.size) [.int .i64 C, .int .i64 S, .int .i64 P, .bool true]) := CellsAt.below (Kk28.out) hb29
  have Zk329 : Hid (FrzAt w29 (w4.heap.size) 3) := FrzAt.below (Zk328.out) hb29
  have HB29 : Hid (Below w.heap.size w w29) := bwStep (HB28.out) hb29
  clear hb29 yf28 qf28_0 qf28_1 qf28_2 ya28 qa28_0 qa28_1 yb28 qb28_0 qb28_1 yk28 qk28_0 qk28_1 qk28_2 qk28_3
  have yf29 := Kf29.out.1
  have qf29_0 : w29.cell? ⟨w.heap.size, 0, none⟩ = some (.int .i64 C) := Kf29.out.2 0 (by simp)
  have qf29_1 : w29.cell? ⟨w.heap.size, 1, none⟩ = some (.int .i64 S) := Kf29.out.2 1 (by simp)
  have qf29_2 : w29.cell? ⟨w.heap.size, 2, none⟩ = some (.int .i64 P) := Kf29.out.2 2 (by simp)
  have ya29 := Ka29.out.1
  have qa29_0 : w29.cell? ⟨w.heap.size + 1, 0, none⟩ = some (.int .i64 X) := Ka29.out.2 0 (by simp)
  have qa29_1 : w29.cell? ⟨w.heap.size + 1, 1, none⟩ = some (.int .i64 Y) := Ka29.out.2 1 (by simp)
  have yb29 := Kb29.out.1
  have qb29_0 : w29.cell? ⟨w.heap.size + 2, 0, none⟩ = some (.int .i64 Z) := Kb29.out.2 0 (by simp)
  have qb29_1 : w29.cell? ⟨w.heap.size + 2, 1, none⟩ = some (.int .i64 t) := Kb29.out.2 1 (by simp)
  have yk29 := Kk29.out.1
  have qk29_0 : w29.cell? ⟨w4.heap.size, 0, none⟩ = some (.int .i64 C) := Kk29.out.2 0 (by simp)
  have qk29_1 : w29.cell? ⟨w4.heap.size, 1, none⟩ = some (.int .i64 S) := Kk29.out.2 1 (by simp)
  have qk29_2 : w29.cell? ⟨w4.heap.size, 2, none⟩ = some (.int .i64 P) := Kk29.out.2 2 (by simp)
  have qk29_3 : w29.cell? ⟨w4.heap.size, 3, none⟩ = some (.bool true) := Kk29.out.2 3 (by simp)
  go_wp2_with fail
  refine (alive_any _).mono ?_
  rintro e w30 ⟨rfl, hb30⟩
  have Kf30 : Hid (CellsAt w30 (w.heap.size) [.int .i64 C, .int .i64 S, .int .i64 P]) := CellsAt.below (Kf29.out) hb30
  have Ka30 : Hid (CellsAt w30 (w.heap.size + 1) [.int .i64 X, .int .i64 Y]) := CellsAt.below (Ka29.out) hb30
  have Kb30 : Hid (CellsAt w30 (w.heap.size + 2) [.int .i64 Z, .int .i64 t]) := CellsAt.below (Kb29.out) hb30
  have Kk30 : Hid (CellsAt w30 (w4.heap.size) [.int .i64 C, .int .i64 S, .int .i64 P, .bool true]) := CellsAt.below (Kk29.out) hb30
  have Zk330 : Hid (FrzAt w30 (w4.heap.size) 3) := FrzAt.below (Zk329.out) hb30
  have HB30 : Hid (Below w.heap.size w w30) := bwStep (HB29.out) hb30
  clear hb30 yf29 qf29_0 qf29_1 qf29_2 ya29 qa29_0 qa29_1 yb29 qb29_0 qb29_1 yk29 qk29_0 qk29_1 qk29_2 qk29_3
  have yf30 := Kf30.out.1
  have qf30_0 : w30.cell? ⟨w.heap.size, 0, none⟩ = some (.int .i64 C) := Kf30.out.2 0 (by simp)
  have qf30_1 : w30.cell? ⟨w.heap.size, 1, none⟩ = some (.int .i64 S) := Kf30.out.2 1 (by simp)
  have qf30_2 : w30.cell? ⟨w.heap.size, 2, none⟩ = some (.int .i64 P) := Kf30.out.2 2 (by simp)
  have ya30 := Ka30.out.1
  have qa30_0 : w30.cell? ⟨w.heap.size + 1, 0, none⟩ = some (.int .i64 X) := Ka30.out.2 0 (by simp)
  have qa30_1 : w30.cell? ⟨w.heap.size + 1, 1, none⟩ = some (.int .i64 Y) := Ka30.out.2 1 (by simp)
  have yb30 := Kb30.out.1
  have qb30_0 : w30.cell? ⟨w.heap.size + 2, 0, none⟩ = some (.int .i64 Z) := Kb30.out.2 0 (by simp)
  have qb30_1 : w30.cell? ⟨w.heap.size + 2, 1, none⟩ = some (.int .i64 t) := Kb30.out.2 1 (by simp)
  have yk30 := Kk30.out.1
  have qk30_0 : w30.cell? ⟨w4.heap.size, 0, none⟩ = some (.int .i64 C) := Kk30.out.2 0 (by simp)
  have qk30_1 : w30.cell? ⟨w4.heap.size, 1, none⟩ = some (.int .i64 S) := Kk30.out.2 1 (by simp)
  have qk30_2 : w30.cell? ⟨w4.heap.size, 2, none⟩ = some (.int .i64 P) := Kk30.out.2 2 (by simp)
  have qk30_3 : w30.cell? ⟨w4.heap.size, 3, none⟩ = some (.bool true) := Kk30.out.2 3 (by simp)
  go_wp2_with fail
  go_ret
  exact ⟨rfl, HB30.out⟩
set_option maxRecDepth 100000 in
set_option maxHeartbeats 4000000 in
theorem yes1 (C S P X Y Z : Nat) (t : Int) (w : World) (hv : VF C S P) (hx : X < S) (hy : Y < S) (hz : Z < S) (hx0 : 0 < X) :
    Calls Try.prog 7 #[.agg #[.int .i64 C, .int .i64 S, .int .i64 P], .agg #[.int .i64 X, .int .i64 Y], .agg #[.int .i64 Z, .int .i64 t]] w fun e w' => e = .returned (.bool true) ∧ Below w.heap.size w w' := by
  have hS := hv.le
  have hS2 := hv.two_le
  have hP : (P : Int) ≤ 9223372036854775807 := hv.pbd
  have HX0 : Hid (vldB C S P = true) := vld_of hv
  have HX1 : Hid (isB S (X : Int) = true) := isB_of hx
  have HX2 : Hid (isB S (Y : Int) = true) := isB_of hy
  have HX3 : Hid (isB S (Z : Int) = true) := isB_of hz
  have q1 := addN_assoc hv hx hy hz
  have q2 := addN_comm hv hx hy
  have q3 := addN_zero hv hx
  have q4 := mulN_assoc hv hx hy hz
  have q5 := mulN_comm hv hx hy
  have q6 := mul_oneN hv X hx
  have q7 := mulN_zero hv hx
  have q8 := mulN_add hv hx hy hz
  have q9 := addN_neg hv hx
  have q10 := subN_add hv hx hy
  have q11 := mulN_inv hv hx (by omega)
  have RS : Hid (subR C S P 0 X = (((fsubN S P 0 X : Nat) : Int), 0)) := by show _ = _; exact (subR_ok hv (by omega) (by omega) (by omega) (by omega)).trans (by simp)
  have RD : Hid (subR C S P X Y = (((fsubN S P X Y : Nat) : Int), 0)) := by show _ = _; exact (subR_ok hv (by omega) (by omega) (by omega) (by omega)).trans (by simp)
  have RI : Hid (invR C S P X = (((finvN S P X : Nat) : Int), 0)) := by show _ = _; unfold invR; rw [ok1_of hv hx, if_pos rfl, if_neg (by omega)]; simp
  have ls1 := fadd_lt hv X Y hx hy
  generalize es1 : faddN S P X Y = s1 at *
  have ls3 := fadd_lt hv Y Z hy hz
  generalize es3 : faddN S P Y Z = s3 at *
  have lm1 := fmul_lt hv X Y
  generalize em1 : fmulN S P X Y = m1 at *
  have lm3 := fmul_lt hv Y Z
  generalize em3 : fmulN S P Y Z = m3 at *
  have lm4 := fmul_lt hv X Z
  generalize em4 : fmulN S P X Z = m4 at *
  have ls2 := fadd_lt hv s1 Z ls1 hz
  generalize es2 : faddN S P s1 Z = s2 at *
  have lm2 := fmul_lt hv m1 Z
  generalize em2 : fmulN S P m1 Z = m2 at *
  have lp1 := fmul_lt hv X s3
  generalize ep1 : fmulN S P X s3 = p1 at *
  have ln1 := subN_lt hv (x := 0) (y := X) (by omega) hx
  generalize en1 : fsubN S P 0 X = n1 at *
  have ld1 := subN_lt hv hx hy
  generalize ed1 : fsubN S P X Y = d1 at *
  have lv1 := invN_lt hv (x := X)
  generalize ev1 : finvN S P X = v1 at *
  have A1 : Hid (faddN S P (X : Int).toNat (Y : Int).toNat = s1) := Lib.hid es1
  have A2 : Hid (faddN S P (s1 : Int).toNat (Z : Int).toNat = s2) := Lib.hid es2
  have A3 : Hid (faddN S P (Y : Int).toNat (Z : Int).toNat = s3) := Lib.hid es3
  have A4 : Hid (faddN S P (X : Int).toNat (s3 : Int).toNat = s2) := Lib.hid (q1.symm)
  have A5 : Hid (faddN S P (Y : Int).toNat (X : Int).toNat = s1) := Lib.hid (q2.symm)
  have A6 : Hid (faddN S P (X : Int).toNat (0 : Int).toNat = X) := Lib.hid q3
  have M1 : Hid (fmulN S P (X : Int).toNat (Y : Int).toNat = m1) := Lib.hid em1
  have M2 : Hid (fmulN S P (m1 : Int).toNat (Z : Int).toNat = m2) := Lib.hid em2
  have M3 : Hid (fmulN S P (Y : Int).toNat (Z : Int).toNat = m3) := Lib.hid em3
  have M4 : Hid (fmulN S P (X : Int).toNat (m3 : Int).toNat = m2) := Lib.hid (q4.symm)
  have M5 : Hid (fmulN S P (Y : Int).toNat (X : Int).toNat = m1) := Lib.hid (q5.symm)
  have M6 : Hid (fmulN S P (X : Int).toNat (1 : Int).toNat = X) := Lib.hid q6
  have M7 : Hid (fmulN S P (X : Int).toNat (0 : Int).toNat = 0) := Lib.hid q7
  have B1 : Hid (fmulN S P (X : Int).toNat (s3 : Int).toNat = p1) := Lib.hid ep1
  have B2 : Hid (fmulN S P (X : Int).toNat (Z : Int).toNat = m4) := Lib.hid em4
  have B3 : Hid (faddN S P (m1 : Int).toNat (m4 : Int).toNat = p1) := Lib.hid (q8.symm)
  have N1 : Hid (faddN S P (X : Int).toNat (n1 : Int).toNat = 0) := Lib.hid q9
  have D1 : Hid (faddN S P (d1 : Int).toNat (Y : Int).toNat = X) := Lib.hid q10
  have V1 : Hid (fmulN S P (X : Int).toNat (v1 : Int).toNat = 1) := Lib.hid q11
  clear q1 q2 q3 q4 q5 q6 q7 q8 q9 q10 es1 es2 es3 em1 em2 em3 em4 ep1 en1 ed1 q11 ev1
  have hz0 : (((X : Nat) : Int) == 0) = false := by rw [beq_eq_false_iff_ne]; omega
  clear hx0
  have HV := Lib.hid hv; clear hv
  go_enter Try.func7, Try.ntmps7
  go_wp2_with fail
  refine (rvalid_any C S P _ (by omega) hP).mono ?_
  rintro e w1 ⟨rfl, hb1⟩
  rw [HX0.out]
  have Kf1 : Hid (CellsAt w1 (w.heap.size) [.int .i64 C, .int .i64 S, .int .i64 P]) := CellsAt.below (CellsAt.alloc (CellsAt.alloc (CellsAt.new _ #[.int .i64 C, .int .i64 S, .int .i64 P] 23 _ (by simp)) _) _) hb1
  have Ka1 : Hid (CellsAt w1 (w.heap.size + 1) [.int .i64 X, .int .i64 Y]) := CellsAt.below (CellsAt.alloc (CellsAt.new _ #[.int .i64 X, .int .i64 Y] 39 _ (by simp)) _) hb1
  have Kb1 : Hid (CellsAt w1 (w.heap.size + 2) [.int .i64 Z, .int .i64 t]) := CellsAt.below (CellsAt.new _ #[.int .i64 Z, .int .i64 t] 39 _ (by simp)) hb1
  have HB1 : Hid (Below w.heap.size w w1) := bwStep (bwAlloc (bwAlloc (bwAlloc ((Below.refl _ _)) _) _) _) hb1
  clear hb1 
  have yf1 := Kf1.out.1
  have qf1_0 : w1.cell? ⟨w.heap.size, 0, none⟩ = some (.int .i64 C) := Kf1.out.2 0 (by simp)
  have qf1_1 : w1.cell? ⟨w.heap.size, 1, none⟩ = some (.int .i64 S) := Kf1.out.2 1 (by simp)
  have qf1_2 : w1.cell? ⟨w.heap.size, 2, none⟩ = some (.int .i64 P) := Kf1.out.2 2 (by simp)
  have ya1 := Ka1.out.1
  have qa1_0 : w1.cell? ⟨w.heap.size + 1, 0, none⟩ = some (.int .i64 X) := Ka1.out.2 0 (by simp)
  have qa1_1 : w1.cell? ⟨w.heap.size + 1, 1, none⟩ = some (.int .i64 Y) := Ka1.out.2 1 (by simp)
  have yb1 := Kb1.out.1
  have qb1_0 : w1.cell? ⟨w.heap.size + 2, 0, none⟩ = some (.int .i64 Z) := Kb1.out.2 0 (by simp)
  have qb1_1 : w1.cell? ⟨w.heap.size + 2, 1, none⟩ = some (.int .i64 t) := Kb1.out.2 1 (by simp)
  go_wp2_with fail
  refine (is_any C S P X _).mono ?_
  rintro e w2 ⟨rfl, hb2⟩
  rw [HX1.out]
  have Kf2 : Hid (CellsAt w2 (w.heap.size) [.int .i64 C, .int .i64 S, .int .i64 P]) := CellsAt.below (Kf1.out) hb2
  have Ka2 : Hid (CellsAt w2 (w.heap.size + 1) [.int .i64 X, .int .i64 Y]) := CellsAt.below (Ka1.out) hb2
  have Kb2 : Hid (CellsAt w2 (w.heap.size + 2) [.int .i64 Z, .int .i64 t]) := CellsAt.below (Kb1.out) hb2
  have HB2 : Hid (Below w.heap.size w w2) := bwStep (HB1.out) hb2
  clear hb2 yf1 qf1_0 qf1_1 qf1_2 ya1 qa1_0 qa1_1 yb1 qb1_0 qb1_1
  have yf2 := Kf2.out.1
  have qf2_0 : w2.cell? ⟨w.heap.size, 0, none⟩ = some (.int .i64 C) := Kf2.out.2 0 (by simp)
  have qf2_1 : w2.cell? ⟨w.heap.size, 1, none⟩ = some (.int .i64 S) := Kf2.out.2 1 (by simp)
  have qf2_2 : w2.cell? ⟨w.heap.size, 2, none⟩ = some (.int .i64 P) := Kf2.out.2 2 (by simp)
  have ya2 := Ka2.out.1
  have qa2_0 : w2.cell? ⟨w.heap.size + 1, 0, none⟩ = some (.int .i64 X) := Ka2.out.2 0 (by simp)
  have qa2_1 : w2.cell? ⟨w.heap.size + 1, 1, none⟩ = some (.int .i64 Y) := Ka2.out.2 1 (by simp)
  have yb2 := Kb2.out.1
  have qb2_0 : w2.cell? ⟨w.heap.size + 2, 0, none⟩ = some (.int .i64 Z) := Kb2.out.2 0 (by simp)
  have qb2_1 : w2.cell? ⟨w.heap.size + 2, 1, none⟩ = some (.int .i64 t) := Kb2.out.2 1 (by simp)
  go_wp2_with fail
  refine (is_any C S P Y _).mono ?_
  rintro e w3 ⟨rfl, hb3⟩
  rw [HX2.out]
  have Kf3 : Hid (CellsAt w3 (w.heap.size) [.int .i64 C, .int .i64 S, .int .i64 P]) := CellsAt.below (Kf2.out) hb3
  have Ka3 : Hid (CellsAt w3 (w.heap.size + 1) [.int .i64 X, .int .i64 Y]) := CellsAt.below (Ka2.out) hb3
  have Kb3 : Hid (CellsAt w3 (w.heap.size + 2) [.int .i64 Z, .int .i64 t]) := CellsAt.below (Kb2.out) hb3
  have HB3 : Hid (Below w.heap.size w w3) := bwStep (HB2.out) hb3
  clear hb3 yf2 qf2_0 qf2_1 qf2_2 ya2 qa2_0 qa2_1 yb2 qb2_0 qb2_1
  have yf3 := Kf3.out.1
  have qf3_0 : w3.cell? ⟨w.heap.size, 0, none⟩ = some (.int .i64 C) := Kf3.out.2 0 (by simp)
  have qf3_1 : w3.cell? ⟨w.heap.size, 1, none⟩ = some (.int .i64 S) := Kf3.out.2 1 (by simp)
  have qf3_2 : w3.cell? ⟨w.heap.size, 2, none⟩ = some (.int .i64 P) := Kf3.out.2 2 (by simp)
  have ya3 := Ka3.out.1
  have qa3_0 : w3.cell? ⟨w.heap.size + 1, 0, none⟩ = some (.int .i64 X) := Ka3.out.2 0 (by simp)
  have qa3_1 : w3.cell? ⟨w.heap.size + 1, 1, none⟩ = some (.int .i64 Y) := Ka3.out.2 1 (by simp)
  have yb3 := Kb3.out.1
  have qb3_0 : w3.cell? ⟨w.heap.size + 2, 0, none⟩ = some (.int .i64 Z) := Kb3.out.2 0 (by simp)
  have qb3_1 : w3.cell? ⟨w.heap.size + 2, 1, none⟩ = some (.int .i64 t) := Kb3.out.2 1 (by simp)
  go_wp2_with fail
  refine (is_any C S P Z _).mono ?_
  rintro e w4 ⟨rfl, hb4⟩
  rw [HX3.out]
  have Kf4 : Hid (CellsAt w4 (w.heap.size) [.int .i64 C, .int .i64 S, .int .i64 P]) := CellsAt.below (Kf3.out) hb4
  have Ka4 : Hid (CellsAt w4 (w.heap.size + 1) [.int .i64 X, .int .i64 Y]) := CellsAt.below (Ka3.out) hb4
  have Kb4 : Hid (CellsAt w4 (w.heap.size + 2) [.int .i64 Z, .int .i64 t]) := CellsAt.below (Kb3.out) hb4
  have HB4 : Hid (Below w.heap.size w w4) := bwStep (HB3.out) hb4
  clear hb4 yf3 qf3_0 qf3_1 qf3_2 ya3 qa3_0 qa3_1 yb3 qb3_0 qb3_1
  have yf4 := Kf4.out.1
  have qf4_0 : w4.cell? ⟨w.heap.size, 0, none⟩ = some (.int .i64 C) := Kf4.out.2 0 (by simp)
  have qf4_1 : w4.cell? ⟨w.heap.size, 1, none⟩ = some (.int .i64 S) := Kf4.out.2 1 (by simp)
  have qf4_2 : w4.cell? ⟨w.heap.size, 2, none⟩ = some (.int .i64 P) := Kf4.out.2 2 (by simp)
  have ya4 := Ka4.out.1
  have qa4_0 : w4.cell? ⟨w.heap.size + 1, 0, none⟩ = some (.int .i64 X) := Ka4.out.2 0 (by simp)
  have qa4_1 : w4.cell? ⟨w.heap.size + 1, 1, none⟩ = some (.int .i64 Y) := Ka4.out.2 1 (by simp)
  have yb4 := Kb4.out.1
  have qb4_0 : w4.cell? ⟨w.heap.size + 2, 0, none⟩ = some (.int .i64 Z) := Kb4.out.2 0 (by simp)
  have qb4_1 : w4.cell? ⟨w.heap.size + 2, 1, none⟩ = some (.int .i64 t) := Kb4.out.2 1 (by simp)
  go_wp2_with fail
  go_quiet (fail)
  go_wp2_with fail
  refine (cadd_any C S P X Y _ _ HV.out (by omega) (by omega) (by omega) (by omega) (CellsAt.drewN (CellsAt.new _ #[.int .i64 C, .int .i64 S, .int .i64 P, .bool true] 42 _ (by simp)) _) (FrzAt.drewN (FrzAt.new _ #[.int .i64 C, .int .i64 S, .int .i64 P, .bool true] 42 _ 3 (by simp)) _)).mono ?_
  rintro e w5 ⟨rfl, hb5⟩
  rw [A1.out]
  have Kf5 : Hid (CellsAt w5 (w.heap.size) [.int .i64 C, .int .i64 S, .int .i64 P]) := CellsAt.below (CellsAt.drewN (CellsAt.alloc (Kf4.out) _) _) hb5
  have Ka5 : Hid (CellsAt w5 (w.heap.size + 1) [.int .i64 X, .int .i64 Y]) := CellsAt.below (CellsAt.drewN (CellsAt.alloc (Ka4.out) _) _) hb5
  have Kb5 : Hid (CellsAt w5 (w.heap.size + 2) [.int .i64 Z, .int .i64 t]) := CellsAt.below (CellsAt.drewN (CellsAt.alloc (Kb4.out) _) _) hb5
  have Kk5 : Hid (CellsAt w5 (w4.heap.size) [.int .i64 C, .int .i64 S, .int .i64 P, .bool true]) := CellsAt.below (CellsAt.drewN (CellsAt.new _ #[.int .i64 C, .int .i64 S, .int .i64 P, .bool true] 42 _ (by simp)) _) hb5
  have Zk35 : Hid (FrzAt w5 (w4.heap.size) 3) := FrzAt.below (FrzAt.drewN (FrzAt.new _ #[.int .i64 C, .int .i64 S, .int .i64 P, .bool true] 42 _ 3 (by simp)) _) hb5
  have HB5 : Hid (Below w.heap.size w w5) := bwStep (below_drewN (bwAlloc (HB4.out) _) _) hb5
  clear hb5 yf4 qf4_0 qf4_1 qf4_2 ya4 qa4_0 qa4_1 yb4 qb4_0 qb4_1
  have yf5 := Kf5.out.1
  have qf5_0 : w5.cell? ⟨w.heap.size, 0, none⟩ = some (.int .i64 C) := Kf5.out.2 0 (by simp)
  have qf5_1 : w5.cell? ⟨w.heap.size, 1, none⟩ = some (.int .i64 S) := Kf5.out.2 1 (by simp)
  have qf5_2 : w5.cell? ⟨w.heap.size, 2, none⟩ = some (.int .i64 P) := Kf5.out.2 2 (by simp)
  have ya5 := Ka5.out.1
  have qa5_0 : w5.cell? ⟨w.heap.size + 1, 0, none⟩ = some (.int .i64 X) := Ka5.out.2 0 (by simp)
  have qa5_1 : w5.cell? ⟨w.heap.size + 1, 1, none⟩ = some (.int .i64 Y) := Ka5.out.2 1 (by simp)
  have yb5 := Kb5.out.1
  have qb5_0 : w5.cell? ⟨w.heap.size + 2, 0, none⟩ = some (.int .i64 Z) := Kb5.out.2 0 (by simp)
  have qb5_1 : w5.cell? ⟨w.heap.size + 2, 1, none⟩ = some (.int .i64 t) := Kb5.out.2 1 (by simp)
  have yk5 := Kk5.out.1
  have qk5_0 : w5.cell? ⟨w4.heap.size, 0, none⟩ = some (.int .i64 C) := Kk5.out.2 0 (by simp)
  have qk5_1 : w5.cell? ⟨w4.heap.size, 1, none⟩ = some (.int .i64 S) := Kk5.out.2 1 (by simp)
  have qk5_2 : w5.cell? ⟨w4.heap.size, 2, none⟩ = some (.int .i64 P) := Kk5.out.2 2 (by simp)
  have qk5_3 : w5.cell? ⟨w4.heap.size, 3, none⟩ = some (.bool true) := Kk5.out.2 3 (by simp)
  go_wp2_with fail
  refine (cadd_any C S P s1 Z _ _ HV.out (by omega) (by omega) (by omega) (by omega) Kk5.out Zk35.out).mono ?_
  rintro e w6 ⟨rfl, hb6⟩
  rw [A2.out]
  have Kf6 : Hid (CellsAt w6 (w.heap.size) [.int .i64 C, .int .i64 S, .int .i64 P]) := CellsAt.below (Kf5.out) hb6
  have Ka6 : Hid (CellsAt w6 (w.heap.size + 1) [.int .i64 X, .int .i64 Y]) := CellsAt.below (Ka5.out) hb6
  have Kb6 : Hid (CellsAt w6 (w.heap.size + 2) [.int .i64 Z, .int .i64 t]) := CellsAt.below (Kb5.out) hb6
  have Kk6 : Hid (CellsAt w6 (w4.heap.size) [.int .i64 C, .int .i64 S, .int .i64 P, .bool true]) := CellsAt.below (Kk5.out) hb6
  have Zk36 : Hid (FrzAt w6 (w4.heap.size) 3) := FrzAt.below (Zk35.out) hb6
  have HB6 : Hid (Below w.heap.size w w6) := bwStep (HB5.out) hb6
  clear hb6 yf5 qf5_0 qf5_1 qf5_2 ya5 qa5_0 qa5_1 yb5 qb5_0 qb5_1 yk5 qk5_0 qk5_1 qk5_2 qk5_3
  have yf6 := Kf6.out.1
  have qf6_0 : w6.cell? ⟨w.heap.size, 0, none⟩ = some (.int .i64 C) := Kf6.out.2 0 (by simp)
  have qf6_1 : w6.cell? ⟨w.heap.size, 1, none⟩ = some (.int .i64 S) := Kf6.out.2 1 (by simp)
  have qf6_2 : w6.cell? ⟨w.heap.size, 2, none⟩ = some (.int .i64 P) := Kf6.out.2 2 (by simp)
  have ya6 := Ka6.out.1
  have qa6_0 : w6.cell? ⟨w.heap.size + 1, 0, none⟩ = some (.int .i64 X) := Ka6.out.2 0 (by simp)
  have qa6_1 : w6.cell? ⟨w.heap.size + 1, 1, none⟩ = some (.int .i64 Y) := Ka6.out.2 1 (by simp)
  have yb6 := Kb6.out.1
  have qb6_0 : w6.cell? ⟨w.heap.size + 2, 0, none⟩ = some (.int .i64 Z) := Kb6.out.2 0 (by simp)
  have qb6_1 : w6.cell? ⟨w.heap.size + 2, 1, none⟩ = some (.int .i64 t) := Kb6.out.2 1 (by simp)
  have yk6 := Kk6.out.1
  have qk6_0 : w6.cell? ⟨w4.heap.size, 0, none⟩ = some (.int .i64 C) := Kk6.out.2 0 (by simp)
  have qk6_1 : w6.cell? ⟨w4.heap.size, 1, none⟩ = some (.int .i64 S) := Kk6.out.2 1 (by simp)
  have qk6_2 : w6.cell? ⟨w4.heap.size, 2, none⟩ = some (.int .i64 P) := Kk6.out.2 2 (by simp)
  have qk6_3 : w6.cell? ⟨w4.heap.size, 3, none⟩ = some (.bool true) := Kk6.out.2 3 (by simp)
  go_wp2_with fail
  refine (cadd_any C S P Y Z _ _ HV.out (by omega) (by omega) (by omega) (by omega) Kk6.out Zk36.out).mono ?_
  rintro e w7 ⟨rfl, hb7⟩
  rw [A3.out]
  have Kf7 : Hid (CellsAt w7 (w.heap.size) [.int .i64 C, .int .i64 S, .int .i64 P]) := CellsAt.below (Kf6.out) hb7
  have Ka7 : Hid (CellsAt w7 (w.heap.size + 1) [.int .i64 X, .int .i64 Y]) := CellsAt.below (Ka6.out) hb7
  have Kb7 : Hid (CellsAt w7 (w.heap.size + 2) [.int .i64 Z, .int .i64 t]) := CellsAt.below (Kb6.out) hb7
  have Kk7 : Hid (CellsAt w7 (w4.heap.size) [.int .i64 C, .int .i64 S, .int .i64 P, .bool true]) := CellsAt.below (Kk6.out) hb7
  have Zk37 : Hid (FrzAt w7 (w4.heap.size) 3) := FrzAt.below (Zk36.out) hb7
  have HB7 : Hid (Below w.heap.size w w7) := bwStep (HB6.out) hb7
  clear hb7 yf6 qf6_0 qf6_1 qf6_2 ya6 qa6_0 qa6_1 yb6 qb6_0 qb6_1 yk6 qk6_0 qk6_1 qk6_2 qk6_3
  have yf7 := Kf7.out.1
  have qf7_0 : w7.cell? ⟨w.heap.size, 0, none⟩ = some (.int .i64 C) := Kf7.out.2 0 (by simp)
  have qf7_1 : w7.cell? ⟨w.heap.size, 1, none⟩ = some (.int .i64 S) := Kf7.out.2 1 (by simp)
  have qf7_2 : w7.cell? ⟨w.heap.size, 2, none⟩ = some (.int .i64 P) := Kf7.out.2 2 (by simp)
  have ya7 := Ka7.out.1
  have qa7_0 : w7.cell? ⟨w.heap.size + 1, 0, none⟩ = some (.int .i64 X) := Ka7.out.2 0 (by simp)
  have qa7_1 : w7.cell? ⟨w.heap.size + 1, 1, none⟩ = some (.int .i64 Y) := Ka7.out.2 1 (by simp)
  have yb7 := Kb7.out.1
  have qb7_0 : w7.cell? ⟨w.heap.size + 2, 0, none⟩ = some (.int .i64 Z) := Kb7.out.2 0 (by simp)
  have qb7_1 : w7.cell? ⟨w.heap.size + 2, 1, none⟩ = some (.int .i64 t) := Kb7.out.2 1 (by simp)
  have yk7 := Kk7.out.1
  have qk7_0 : w7.cell? ⟨w4.heap.size, 0, none⟩ = some (.int .i64 C) := Kk7.out.2 0 (by simp)
  have qk7_1 : w7.cell? ⟨w4.heap.size, 1, none⟩ = some (.int .i64 S) := Kk7.out.2 1 (by simp)
  have qk7_2 : w7.cell? ⟨w4.heap.size, 2, none⟩ = some (.int .i64 P) := Kk7.out.2 2 (by simp)
  have qk7_3 : w7.cell? ⟨w4.heap.size, 3, none⟩ = some (.bool true) := Kk7.out.2 3 (by simp)
  go_wp2_with fail
  refine (cadd_any C S P X s3 _ _ HV.out (by omega) (by omega) (by omega) (by omega) Kk7.out Zk37.out).mono ?_
  rintro e w8 ⟨rfl, hb8⟩
  rw [A4.out]
  have Kf8 : Hid (CellsAt w8 (w.heap.size) [.int .i64 C, .int .i64 S, .int .i64 P]) := CellsAt.below (Kf7.out) hb8
  have Ka8 : Hid (CellsAt w8 (w.heap.size + 1) [.int .i64 X, .int .i64 Y]) := CellsAt.below (Ka7.out) hb8
  have Kb8 : Hid (CellsAt w8 (w.heap.size + 2) [.int .i64 Z, .int .i64 t]) := CellsAt.below (Kb7.out) hb8
  have Kk8 : Hid (CellsAt w8 (w4.heap.size) [.int .i64 C, .int .i64 S, .int .i64 P, .bool true]) := CellsAt.below (Kk7.out) hb8
  have Zk38 : Hid (FrzAt w8 (w4.heap.size) 3) := FrzAt.below (Zk37.out) hb8
  have HB8 : Hid (Below w.heap.size w w8) := bwStep (HB7.out) hb8
  clear hb8 yf7 qf7_0 qf7_1 qf7_2 ya7 qa7_0 qa7_1 yb7 qb7_0 qb7_1 yk7 qk7_0 qk7_1 qk7_2 qk7_3
  have yf8 := Kf8.out.1
  have qf8_0 : w8.cell? ⟨w.heap.size, 0, none⟩ = some (.int .i64 C) := Kf8.out.2 0 (by simp)
  have qf8_1 : w8.cell? ⟨w.heap.size, 1, none⟩ = some (.int .i64 S) := Kf8.out.2 1 (by simp)
  have qf8_2 : w8.cell? ⟨w.heap.size, 2, none⟩ = some (.int .i64 P) := Kf8.out.2 2 (by simp)
  have ya8 := Ka8.out.1
  have qa8_0 : w8.cell? ⟨w.heap.size + 1, 0, none⟩ = some (.int .i64 X) := Ka8.out.2 0 (by simp)
  have qa8_1 : w8.cell? ⟨w.heap.size + 1, 1, none⟩ = some (.int .i64 Y) := Ka8.out.2 1 (by simp)
  have yb8 := Kb8.out.1
  have qb8_0 : w8.cell? ⟨w.heap.size + 2, 0, none⟩ = some (.int .i64 Z) := Kb8.out.2 0 (by simp)
  have qb8_1 : w8.cell? ⟨w.heap.size + 2, 1, none⟩ = some (.int .i64 t) := Kb8.out.2 1 (by simp)
  have yk8 := Kk8.out.1
  have qk8_0 : w8.cell? ⟨w4.heap.size, 0, none⟩ = some (.int .i64 C) := Kk8.out.2 0 (by simp)
  have qk8_1 : w8.cell? ⟨w4.heap.size, 1, none⟩ = some (.int .i64 S) := Kk8.out.2 1 (by simp)
  have qk8_2 : w8.cell? ⟨w4.heap.size, 2, none⟩ = some (.int .i64 P) := Kk8.out.2 2 (by simp)
  have qk8_3 : w8.cell? ⟨w4.heap.size, 3, none⟩ = some (.bool true) := Kk8.out.2 3 (by simp)
  go_wp2_with fail
  refine (cadd_any C S P X Y _ _ HV.out (by omega) (by omega) (by omega) (by omega) Kk8.out Zk38.out).mono ?_
  rintro e w9 ⟨rfl, hb9⟩
  rw [A1.out]
  have Kf9 : Hid (CellsAt w9 (w.heap.size) [.int .i64 C, .int .i64 S, .int .i64 P]) := CellsAt.below (Kf8.out) hb9
  have Ka9 : Hid (CellsAt w9 (w.heap.size + 1) [.int .i64 X, .int .i64 Y]) := CellsAt.below (Ka8.out) hb9
  have Kb9 : Hid (CellsAt w9 (w.heap.size + 2) [.int .i64 Z, .int .i64 t]) := CellsAt.below (Kb8.out) hb9
  have Kk9 : Hid (CellsAt w9 (w4.heap.size) [.int .i64 C, .int .i64 S, .int .i64 P, .bool true]) := CellsAt.below (Kk8.out) hb9
  have Zk39 : Hid (FrzAt w9 (w4.heap.size) 3) := FrzAt.below (Zk38.out) hb9
  have HB9 : Hid (Below w.heap.size w w9) := bwStep (HB8.out) hb9
  clear hb9 yf8 qf8_0 qf8_1 qf8_2 ya8 qa8_0 qa8_1 yb8 qb8_0 qb8_1 yk8 qk8_0 qk8_1 qk8_2 qk8_3
  have yf9 := Kf9.out.1
  have qf9_0 : w9.cell? ⟨w.heap.size, 0, none⟩ = some (.int .i64 C) := Kf9.out.2 0 (by simp)
  have qf9_1 : w9.cell? ⟨w.heap.size, 1, none⟩ = some (.int .i64 S) := Kf9.out.2 1 (by simp)
  have qf9_2 : w9.cell? ⟨w.heap.size, 2, none⟩ = some (.int .i64 P) := Kf9.out.2 2 (by simp)
  have ya9 := Ka9.out.1
  have qa9_0 : w9.cell? ⟨w.heap.size + 1, 0, none⟩ = some (.int .i64 X) := Ka9.out.2 0 (by simp)
  have qa9_1 : w9.cell? ⟨w.heap.size + 1, 1, none⟩ = some (.int .i64 Y) := Ka9.out.2 1 (by simp)
  have yb9 := Kb9.out.1
  have qb9_0 : w9.cell? ⟨w.heap.size + 2, 0, none⟩ = some (.int .i64 Z) := Kb9.out.2 0 (by simp)
  have qb9_1 : w9.cell? ⟨w.heap.size + 2, 1, none⟩ = some (.int .i64 t) := Kb9.out.2 1 (by simp)
  have yk9 := Kk9.out.1
  have qk9_0 : w9.cell? ⟨w4.heap.size, 0, none⟩ = some (.int .i64 C) := Kk9.out.2 0 (by simp)
  have qk9_1 : w9.cell? ⟨w4.heap.size, 1, none⟩ = some (.int .i64 S) := Kk9.out.2 1 (by simp)
  have qk9_2 : w9.cell? ⟨w4.heap.size, 2, none⟩ = some (.int .i64 P) := Kk9.out.2 2 (by simp)
  have qk9_3 : w9.cell? ⟨w4.heap.size, 3, none⟩ = some (.bool true) := Kk9.out.2 3 (by simp)
  go_wp2_with fail
  refine (cadd_any C S P Y X _ _ HV.out (by omega) (by omega) (by omega) (by omega) Kk9.out Zk39.out).mono ?_
  rintro e w10 ⟨rfl, hb10⟩
  rw [A5.out]
  have Kf10 : Hid (CellsAt w10 (w.heap.size) [.int .i64 C, .int .i64 S, .int .i64 P]) := CellsAt.below (Kf9.out) hb10
  have Ka10 : Hid (CellsAt w10 (w.heap.size + 1) [.int .i64 X, .int .i64 Y]) := CellsAt.below (Ka9.out) hb10
  have Kb10 : Hid (CellsAt w10 (w.heap.size + 2) [.int .i64 Z, .int .i64 t]) := CellsAt.below (Kb9.out) hb10
  have Kk10 : Hid (CellsAt w10 (w4.heap.size) [.int .i64 C, .int .i64 S, .int .i64 P, .bool true]) := CellsAt.below (Kk9.out) hb10
  have Zk310 : Hid (FrzAt w10 (w4.heap.size) 3) := FrzAt.below (Zk39.out) hb10
  have HB10 : Hid (Below w.heap.size w w10) := bwStep (HB9.out) hb10
  clear hb10 yf9 qf9_0 qf9_1 qf9_2 ya9 qa9_0 qa9_1 yb9 qb9_0 qb9_1 yk9 qk9_0 qk9_1 qk9_2 qk9_3
  have yf10 := Kf10.out.1
  have qf10_0 : w10.cell? ⟨w.heap.size, 0, none⟩ = some (.int .i64 C) := Kf10.out.2 0 (by simp)
  have qf10_1 : w10.cell? ⟨w.heap.size, 1, none⟩ = some (.int .i64 S) := Kf10.out.2 1 (by simp)
  have qf10_2 : w10.cell? ⟨w.heap.size, 2, none⟩ = some (.int .i64 P) := Kf10.out.2 2 (by simp)
  have ya10 := Ka10.out.1
  have qa10_0 : w10.cell? ⟨w.heap.size + 1, 0, none⟩ = some (.int .i64 X) := Ka10.out.2 0 (by simp)
  have qa10_1 : w10.cell? ⟨w.heap.size + 1, 1, none⟩ = some (.int .i64 Y) := Ka10.out.2 1 (by simp)
  have yb10 := Kb10.out.1
  have qb10_0 : w10.cell? ⟨w.heap.size + 2, 0, none⟩ = some (.int .i64 Z) := Kb10.out.2 0 (by simp)
  have qb10_1 : w10.cell? ⟨w.heap.size + 2, 1, none⟩ = some (.int .i64 t) := Kb10.out.2 1 (by simp)
  have yk10 := Kk10.out.1
  have qk10_0 : w10.cell? ⟨w4.heap.size, 0, none⟩ = some (.int .i64 C) := Kk10.out.2 0 (by simp)
  have qk10_1 : w10.cell? ⟨w4.heap.size, 1, none⟩ = some (.int .i64 S) := Kk10.out.2 1 (by simp)
  have qk10_2 : w10.cell? ⟨w4.heap.size, 2, none⟩ = some (.int .i64 P) := Kk10.out.2 2 (by simp)
  have qk10_3 : w10.cell? ⟨w4.heap.size, 3, none⟩ = some (.bool true) := Kk10.out.2 3 (by simp)
  go_wp2_with fail
  refine (cadd_any C S P X 0 _ _ HV.out (by omega) (by omega) (by omega) (by omega) Kk10.out Zk310.out).mono ?_
  rintro e w11 ⟨rfl, hb11⟩
  rw [A6.out]
  have Kf11 : Hid (CellsAt w11 (w.heap.size) [.int .i64 C, .int .i64 S, .int .i64 P]) := CellsAt.below (Kf10.out) hb11
  have Ka11 : Hid (CellsAt w11 (w.heap.size + 1) [.int .i64 X, .int .i64 Y]) := CellsAt.below (Ka10.out) hb11
  have Kb11 : Hid (CellsAt w11 (w.heap.size + 2) [.int .i64 Z, .int .i64 t]) := CellsAt.below (Kb10.out) hb11
  have Kk11 : Hid (CellsAt w11 (w4.heap.size) [.int .i64 C, .int .i64 S, .int .i64 P, .bool true]) := CellsAt.below (Kk10.out) hb11
  have Zk311 : Hid (FrzAt w11 (w4.heap.size) 3) := FrzAt.below (Zk310.out) hb11
  have HB11 : Hid (Below w.heap.size w w11) := bwStep (HB10.out) hb11
  clear hb11 yf10 qf10_0 qf10_1 qf10_2 ya10 qa10_0 qa10_1 yb10 qb10_0 qb10_1 yk10 qk10_0 qk10_1 qk10_2 qk10_3
  have yf11 := Kf11.out.1
  have qf11_0 : w11.cell? ⟨w.heap.size, 0, none⟩ = some (.int .i64 C) := Kf11.out.2 0 (by simp)
  have qf11_1 : w11.cell? ⟨w.heap.size, 1, none⟩ = some (.int .i64 S) := Kf11.out.2 1 (by simp)
  have qf11_2 : w11.cell? ⟨w.heap.size, 2, none⟩ = some (.int .i64 P) := Kf11.out.2 2 (by simp)
  have ya11 := Ka11.out.1
  have qa11_0 : w11.cell? ⟨w.heap.size + 1, 0, none⟩ = some (.int .i64 X) := Ka11.out.2 0 (by simp)
  have qa11_1 : w11.cell? ⟨w.heap.size + 1, 1, none⟩ = some (.int .i64 Y) := Ka11.out.2 1 (by simp)
  have yb11 := Kb11.out.1
  have qb11_0 : w11.cell? ⟨w.heap.size + 2, 0, none⟩ = some (.int .i64 Z) := Kb11.out.2 0 (by simp)
  have qb11_1 : w11.cell? ⟨w.heap.size + 2, 1, none⟩ = some (.int .i64 t) := Kb11.out.2 1 (by simp)
  have yk11 := Kk11.out.1
  have qk11_0 : w11.cell? ⟨w4.heap.size, 0, none⟩ = some (.int .i64 C) := Kk11.out.2 0 (by simp)
  have qk11_1 : w11.cell? ⟨w4.heap.size, 1, none⟩ = some (.int .i64 S) := Kk11.out.2 1 (by simp)
  have qk11_2 : w11.cell? ⟨w4.heap.size, 2, none⟩ = some (.int .i64 P) := Kk11.out.2 2 (by simp)
  have qk11_3 : w11.cell? ⟨w4.heap.size, 3, none⟩ = some (.bool true) := Kk11.out.2 3 (by simp)
  go_wp2_with fail
  refine (cmul_any C S P X Y _ _ HV.out (by omega) (by omega) (by omega) (by omega) Kk11.out Zk311.out).mono ?_
  rintro e w12 ⟨rfl, hb12⟩
  rw [M1.out]
  have Kf12 : Hid (CellsAt w12 (w.heap.size) [.int .i64 C, .int .i64 S, .int .i64 P]) := CellsAt.below (Kf11.out) hb12
  have Ka12 : Hid (CellsAt w12 (w.heap.size + 1) [.int .i64 X, .int .i64 Y]) := CellsAt.below (Ka11.out) hb12
  have Kb12 : Hid (CellsAt w12 (w.heap.size + 2) [.int .i64 Z, .int .i64 t]) := CellsAt.below (Kb11.out) hb12
  have Kk12 : Hid (CellsAt w12 (w4.heap.size) [.int .i64 C, .int .i64 S, .int .i64 P, .bool true]) := CellsAt.below (Kk11.out) hb12
  have Zk312 : Hid (FrzAt w12 (w4.heap.size) 3) := FrzAt.below (Zk311.out) hb12
  have HB12 : Hid (Below w.heap.size w w12) := bwStep (HB11.out) hb12
  clear hb12 yf11 qf11_0 qf11_1 qf11_2 ya11 qa11_0 qa11_1 yb11 qb11_0 qb11_1 yk11 qk11_0 qk11_1 qk11_2 qk11_3
  have yf12 := Kf12.out.1
  have qf12_0 : w12.cell? ⟨w.heap.size, 0, none⟩ = some (.int .i64 C) := Kf12.out.2 0 (by simp)
  have qf12_1 : w12.cell? ⟨w.heap.size, 1, none⟩ = some (.int .i64 S) := Kf12.out.2 1 (by simp)
  have qf12_2 : w12.cell? ⟨w.heap.size, 2, none⟩ = some (.int .i64 P) := Kf12.out.2 2 (by simp)
  have ya12 := Ka12.out.1
  have qa12_0 : w12.cell? ⟨w.heap.size + 1, 0, none⟩ = some (.int .i64 X) := Ka12.out.2 0 (by simp)
  have qa12_1 : w12.cell? ⟨w.heap.size + 1, 1, none⟩ = some (.int .i64 Y) := Ka12.out.2 1 (by simp)
  have yb12 := Kb12.out.1
  have qb12_0 : w12.cell? ⟨w.heap.size + 2, 0, none⟩ = some (.int .i64 Z) := Kb12.out.2 0 (by simp)
  have qb12_1 : w12.cell? ⟨w.heap.size + 2, 1, none⟩ = some (.int .i64 t) := Kb12.out.2 1 (by simp)
  have yk12 := Kk12.out.1
  have qk12_0 : w12.cell? ⟨w4.heap.size, 0, none⟩ = some (.int .i64 C) := Kk12.out.2 0 (by simp)
  have qk12_1 : w12.cell? ⟨w4.heap.size, 1, none⟩ = some (.int .i64 S) := Kk12.out.2 1 (by simp)
  have qk12_2 : w12.cell? ⟨w4.heap.size, 2, none⟩ = some (.int .i64 P) := Kk12.out.2 2 (by simp)
  have qk12_3 : w12.cell? ⟨w4.heap.size, 3, none⟩ = some (.bool true) := Kk12.out.2 3 (by simp)
  go_wp2_with fail
  refine (cmul_any C S P m1 Z _ _ HV.out (by omega) (by omega) (by omega) (by omega) Kk12.out Zk312.out).mono ?_
  rintro e w13 ⟨rfl, hb13⟩
  rw [M2.out]
  have Kf13 : Hid (CellsAt w13 (w.heap.size) [.int .i64 C, .int .i64 S, .int .i64 P]) := CellsAt.below (Kf12.out) hb13
  have Ka13 : Hid (CellsAt w13 (w.heap.size + 1) [.int .i64 X, .int .i64 Y]) := CellsAt.below (Ka12.out) hb13
  have Kb13 : Hid (CellsAt w13 (w.heap.size + 2) [.int .i64 Z, .int .i64 t]) := CellsAt.below (Kb12.out) hb13
  have Kk13 : Hid (CellsAt w13 (w4.heap.size) [.int .i64 C, .int .i64 S, .int .i64 P, .bool true]) := CellsAt.below (Kk12.out) hb13
  have Zk313 : Hid (FrzAt w13 (w4.heap.size) 3) := FrzAt.below (Zk312.out) hb13
  have HB13 : Hid (Below w.heap.size w w13) := bwStep (HB12.out) hb13
  clear hb13 yf12 qf12_0 qf12_1 qf12_2 ya12 qa12_0 qa12_1 yb12 qb12_0 qb12_1 yk12 qk12_0 qk12_1 qk12_2 qk12_3
  have yf13 := Kf13.out.1
  have qf13_0 : w13.cell? ⟨w.heap.size, 0, none⟩ = some (.int .i64 C) := Kf13.out.2 0 (by simp)
  have qf13_1 : w13.cell? ⟨w.heap.size, 1, none⟩ = some (.int .i64 S) := Kf13.out.2 1 (by simp)
  have qf13_2 : w13.cell? ⟨w.heap.size, 2, none⟩ = some (.int .i64 P) := Kf13.out.2 2 (by simp)
  have ya13 := Ka13.out.1
  have qa13_0 : w13.cell? ⟨w.heap.size + 1, 0, none⟩ = some (.int .i64 X) := Ka13.out.2 0 (by simp)
  have qa13_1 : w13.cell? ⟨w.heap.size + 1, 1, none⟩ = some (.int .i64 Y) := Ka13.out.2 1 (by simp)
  have yb13 := Kb13.out.1
  have qb13_0 : w13.cell? ⟨w.heap.size + 2, 0, none⟩ = some (.int .i64 Z) := Kb13.out.2 0 (by simp)
  have qb13_1 : w13.cell? ⟨w.heap.size + 2, 1, none⟩ = some (.int .i64 t) := Kb13.out.2 1 (by simp)
  have yk13 := Kk13.out.1
  have qk13_0 : w13.cell? ⟨w4.heap.size, 0, none⟩ = some (.int .i64 C) := Kk13.out.2 0 (by simp)
  have qk13_1 : w13.cell? ⟨w4.heap.size, 1, none⟩ = some (.int .i64 S) := Kk13.out.2 1 (by simp)
  have qk13_2 : w13.cell? ⟨w4.heap.size, 2, none⟩ = some (.int .i64 P) := Kk13.out.2 2 (by simp)
  have qk13_3 : w13.cell? ⟨w4.heap.size, 3, none⟩ = some (.bool true) := Kk13.out.2 3 (by simp)
  go_wp2_with fail
  refine (cmul_any C S P Y Z _ _ HV.out (by omega) (by omega) (by omega) (by omega) Kk13.out Zk313.out).mono ?_
  rintro e w14 ⟨rfl, hb14⟩
  rw [M3.out]
  have Kf14 : Hid (CellsAt w14 (w.heap.size) [.int .i64 C, .int .i64 S, .int .i64 P]) := CellsAt.below (Kf13.out) hb14
  have Ka14 : Hid (CellsAt w14 (w.heap.size + 1) [.int .i64 X, .int .i64 Y]) := CellsAt.below (Ka13.out) hb14
  have Kb14 : Hid (CellsAt w14 (w.heap.size + 2) [.int .i64 Z, .int .i64 t]) := CellsAt.below (Kb13.out) hb14
  have Kk14 : Hid (CellsAt w14 (w4.heap.size) [.int .i64 C, .int .i64 S, .int .i64 P, .bool true]) := CellsAt.below (Kk13.out) hb14
  have Zk314 : Hid (FrzAt w14 (w4.heap.size) 3) := FrzAt.below (Zk313.out) hb14
  have HB14 : Hid (Below w.heap.size w w14) := bwStep (HB13.out) hb14
  clear hb14 yf13 qf13_0 qf13_1 qf13_2 ya13 qa13_0 qa13_1 yb13 qb13_0 qb13_1 yk13 qk13_0 qk13_1 qk13_2 qk13_3
  have yf14 := Kf14.out.1
  have qf14_0 : w14.cell? ⟨w.heap.size, 0, none⟩ = some (.int .i64 C) := Kf14.out.2 0 (by simp)
  have qf14_1 : w14.cell? ⟨w.heap.size, 1, none⟩ = some (.int .i64 S) := Kf14.out.2 1 (by simp)
  have qf14_2 : w14.cell? ⟨w.heap.size, 2, none⟩ = some (.int .i64 P) := Kf14.out.2 2 (by simp)
  have ya14 := Ka14.out.1
  have qa14_0 : w14.cell? ⟨w.heap.size + 1, 0, none⟩ = some (.int .i64 X) := Ka14.out.2 0 (by simp)
  have qa14_1 : w14.cell? ⟨w.heap.size + 1, 1, none⟩ = some (.int .i64 Y) := Ka14.out.2 1 (by simp)
  have yb14 := Kb14.out.1
  have qb14_0 : w14.cell? ⟨w.heap.size + 2, 0, none⟩ = some (.int .i64 Z) := Kb14.out.2 0 (by simp)
  have qb14_1 : w14.cell? ⟨w.heap.size + 2, 1, none⟩ = some (.int .i64 t) := Kb14.out.2 1 (by simp)
  have yk14 := Kk14.out.1
  have qk14_0 : w14.cell? ⟨w4.heap.size, 0, none⟩ = some (.int .i64 C) := Kk14.out.2 0 (by simp)
  have qk14_1 : w14.cell? ⟨w4.heap.size, 1, none⟩ = some (.int .i64 S) := Kk14.out.2 1 (by simp)
  have qk14_2 : w14.cell? ⟨w4.heap.size, 2, none⟩ = some (.int .i64 P) := Kk14.out.2 2 (by simp)
  have qk14_3 : w14.cell? ⟨w4.heap.size, 3, none⟩ = some (.bool true) := Kk14.out.2 3 (by simp)
  go_wp2_with fail
  refine (cmul_any C S P X m3 _ _ HV.out (by omega) (by omega) (by omega) (by omega) Kk14.out Zk314.out).mono ?_
  rintro e w15 ⟨rfl, hb15⟩
  rw [M4.out]
  have Kf15 : Hid (CellsAt w15 (w.heap.size) [.int .i64 C, .int .i64 S, .int .i64 P]) := CellsAt.below (Kf14.out) hb15
  have Ka15 : Hid (CellsAt w15 (w.heap.size + 1) [.int .i64 X, .int .i64 Y]) := CellsAt.below (Ka14.out) hb15
  have Kb15 : Hid (CellsAt w15 (w.heap.size + 2) [.int .i64 Z, .int .i64 t]) := CellsAt.below (Kb14.out) hb15
  have Kk15 : Hid (CellsAt w15 (w4.heap.size) [.int .i64 C, .int .i64 S, .int .i64 P, .bool true]) := CellsAt.below (Kk14.out) hb15
  have Zk315 : Hid (FrzAt w15 (w4.heap.size) 3) := FrzAt.below (Zk314.out) hb15
  have HB15 : Hid (Below w.heap.size w w15) := bwStep (HB14.out) hb15
  clear hb15 yf14 qf14_0 qf14_1 qf14_2 ya14 qa14_0 qa14_1 yb14 qb14_0 qb14_1 yk14 qk14_0 qk14_1 qk14_2 qk14_3
  have yf15 := Kf15.out.1
  have qf15_0 : w15.cell? ⟨w.heap.size, 0, none⟩ = some (.int .i64 C) := Kf15.out.2 0 (by simp)
  have qf15_1 : w15.cell? ⟨w.heap.size, 1, none⟩ = some (.int .i64 S) := Kf15.out.2 1 (by simp)
  have qf15_2 : w15.cell? ⟨w.heap.size, 2, none⟩ = some (.int .i64 P) := Kf15.out.2 2 (by simp)
  have ya15 := Ka15.out.1
  have qa15_0 : w15.cell? ⟨w.heap.size + 1, 0, none⟩ = some (.int .i64 X) := Ka15.out.2 0 (by simp)
  have qa15_1 : w15.cell? ⟨w.heap.size + 1, 1, none⟩ = some (.int .i64 Y) := Ka15.out.2 1 (by simp)
  have yb15 := Kb15.out.1
  have qb15_0 : w15.cell? ⟨w.heap.size + 2, 0, none⟩ = some (.int .i64 Z) := Kb15.out.2 0 (by simp)
  have qb15_1 : w15.cell? ⟨w.heap.size + 2, 1, none⟩ = some (.int .i64 t) := Kb15.out.2 1 (by simp)
  have yk15 := Kk15.out.1
  have qk15_0 : w15.cell? ⟨w4.heap.size, 0, none⟩ = some (.int .i64 C) := Kk15.out.2 0 (by simp)
  have qk15_1 : w15.cell? ⟨w4.heap.size, 1, none⟩ = some (.int .i64 S) := Kk15.out.2 1 (by simp)
  have qk15_2 : w15.cell? ⟨w4.heap.size, 2, none⟩ = some (.int .i64 P) := Kk15.out.2 2 (by simp)
  have qk15_3 : w15.cell? ⟨w4.heap.size, 3, none⟩ = some (.bool true) := Kk15.out.2 3 (by simp)
  go_wp2_with fail
  refine (cmul_any C S P X Y _ _ HV.out (by omega) (by omega) (by omega) (by omega) Kk15.out Zk315.out).mono ?_
  rintro e w16 ⟨rfl, hb16⟩
  rw [M1.out]
  have Kf16 : Hid (CellsAt w16 (w.heap.size) [.int .i64 C, .int .i64 S, .int .i64 P]) := CellsAt.below (Kf15.out) hb16
  have Ka16 : Hid (CellsAt w16 (w.heap.size + 1) [.int .i64 X, .int .i64 Y]) := CellsAt.below (Ka15.out) hb16
  have Kb16 : Hid (CellsAt w16 (w.heap.size + 2) [.int .i64 Z, .int .i64 t]) := CellsAt.below (Kb15.out) hb16
  have Kk16 : Hid (CellsAt w16 (w4.heap.size) [.int .i64 C, .int .i64 S, .int .i64 P, .bool true]) := CellsAt.below (Kk15.out) hb16
  have Zk316 : Hid (FrzAt w16 (w4.heap.size) 3) := FrzAt.below (Zk315.out) hb16
  have HB16 : Hid (Below w.heap.size w w16) := bwStep (HB15.out) hb16
  clear hb16 yf15 qf15_0 qf15_1 qf15_2 ya15 qa15_0 qa15_1 yb15 qb15_0 qb15_1 yk15 qk15_0 qk15_1 qk15_2 qk15_3
  have yf16 := Kf16.out.1
  have qf16_0 : w16.cell? ⟨w.heap.size, 0, none⟩ = some (.int .i64 C) := Kf16.out.2 0 (by simp)
  have qf16_1 : w16.cell? ⟨w.heap.size, 1, none⟩ = some (.int .i64 S) := Kf16.out.2 1 (by simp)
  have qf16_2 : w16.cell? ⟨w.heap.size, 2, none⟩ = some (.int .i64 P) := Kf16.out.2 2 (by simp)
  have ya16 := Ka16.out.1
  have qa16_0 : w16.cell? ⟨w.heap.size + 1, 0, none⟩ = some (.int .i64 X) := Ka16.out.2 0 (by simp)
  have qa16_1 : w16.cell? ⟨w.heap.size + 1, 1, none⟩ = some (.int .i64 Y) := Ka16.out.2 1 (by simp)
  have yb16 := Kb16.out.1
  have qb16_0 : w16.cell? ⟨w.heap.size + 2, 0, none⟩ = some (.int .i64 Z) := Kb16.out.2 0 (by simp)
  have qb16_1 : w16.cell? ⟨w.heap.size + 2, 1, none⟩ = some (.int .i64 t) := Kb16.out.2 1 (by simp)
  have yk16 := Kk16.out.1
  have qk16_0 : w16.cell? ⟨w4.heap.size, 0, none⟩ = some (.int .i64 C) := Kk16.out.2 0 (by simp)
  have qk16_1 : w16.cell? ⟨w4.heap.size, 1, none⟩ = some (.int .i64 S) := Kk16.out.2 1 (by simp)
  have qk16_2 : w16.cell? ⟨w4.heap.size, 2, none⟩ = some (.int .i64 P) := Kk16.out.2 2 (by simp)
  have qk16_3 : w16.cell? ⟨w4.heap.size, 3, none⟩ = some (.bool true) := Kk16.out.2 3 (by simp)
  go_wp2_with fail
  refine (cmul_any C S P Y X _ _ HV.out (by omega) (by omega) (by omega) (by omega) Kk16.out Zk316.out).mono ?_
  rintro e w17 ⟨rfl, hb17⟩
  rw [M5.out]
  have Kf17 : Hid (CellsAt w17 (w.heap.size) [.int .i64 C, .int .i64 S, .int .i64 P]) := CellsAt.below (Kf16.out) hb17
  have Ka17 : Hid (CellsAt w17 (w.heap.size + 1) [.int .i64 X, .int .i64 Y]) := CellsAt.below (Ka16.out) hb17
  have Kb17 : Hid (CellsAt w17 (w.heap.size + 2) [.int .i64 Z, .int .i64 t]) := CellsAt.below (Kb16.out) hb17
  have Kk17 : Hid (CellsAt w17 (w4.heap.size) [.int .i64 C, .int .i64 S, .int .i64 P, .bool true]) := CellsAt.below (Kk16.out) hb17
  have Zk317 : Hid (FrzAt w17 (w4.heap.size) 3) := FrzAt.below (Zk316.out) hb17
  have HB17 : Hid (Below w.heap.size w w17) := bwStep (HB16.out) hb17
  clear hb17 yf16 qf16_0 qf16_1 qf16_2 ya16 qa16_0 qa16_1 yb16 qb16_0 qb16_1 yk16 qk16_0 qk16_1 qk16_2 qk16_3
  have yf17 := Kf17.out.1
  have qf17_0 : w17.cell? ⟨w.heap.size, 0, none⟩ = some (.int .i64 C) := Kf17.out.2 0 (by simp)
  have qf17_1 : w17.cell? ⟨w.heap.size, 1, none⟩ = some (.int .i64 S) := Kf17.out.2 1 (by simp)
  have qf17_2 : w17.cell? ⟨w.heap.size, 2, none⟩ = some (.int .i64 P) := Kf17.out.2 2 (by simp)
  have ya17 := Ka17.out.1
  have qa17_0 : w17.cell? ⟨w.heap.size + 1, 0, none⟩ = some (.int .i64 X) := Ka17.out.2 0 (by simp)
  have qa17_1 : w17.cell? ⟨w.heap.size + 1, 1, none⟩ = some (.int .i64 Y) := Ka17.out.2 1 (by simp)
  have yb17 := Kb17.out.1
  have qb17_0 : w17.cell? ⟨w.heap.size + 2, 0, none⟩ = some (.int .i64 Z) := Kb17.out.2 0 (by simp)
  have qb17_1 : w17.cell? ⟨w.heap.size + 2, 1, none⟩ = some (.int .i64 t) := Kb17.out.2 1 (by simp)
  have yk17 := Kk17.out.1
  have qk17_0 : w17.cell? ⟨w4.heap.size, 0, none⟩ = some (.int .i64 C) := Kk17.out.2 0 (by simp)
  have qk17_1 : w17.cell? ⟨w4.heap.size, 1, none⟩ = some (.int .i64 S) := Kk17.out.2 1 (by simp)
  have qk17_2 : w17.cell? ⟨w4.heap.size, 2, none⟩ = some (.int .i64 P) := Kk17.out.2 2 (by simp)
  have qk17_3 : w17.cell? ⟨w4.heap.size, 3, none⟩ = some (.bool true) := Kk17.out.2 3 (by simp)
  go_wp2_with fail
  refine (cmul_any C S P X 1 _ _ HV.out (by omega) (by omega) (by omega) (by omega) Kk17.out Zk317.out).mono ?_
  rintro e w18 ⟨rfl, hb18⟩
  rw [M6.out]
  have Kf18 : Hid (CellsAt w18 (w.heap.size) [.int .i64 C, .int .i64 S, .int .i64 P]) := CellsAt.below (Kf17.out) hb18
  have Ka18 : Hid (CellsAt w18 (w.heap.size + 1) [.int .i64 X, .int .i64 Y]) := CellsAt.below (Ka17.out) hb18
  have Kb18 : Hid (CellsAt w18 (w.heap.size + 2) [.int .i64 Z, .int .i64 t]) := CellsAt.below (Kb17.out) hb18
  have Kk18 : Hid (CellsAt w18 (w4.heap.size) [.int .i64 C, .int .i64 S, .int .i64 P, .bool true]) := CellsAt.below (Kk17.out) hb18
  have Zk318 : Hid (FrzAt w18 (w4.heap.size) 3) := FrzAt.below (Zk317.out) hb18
  have HB18 : Hid (Below w.heap.size w w18) := bwStep (HB17.out) hb18
  clear hb18 yf17 qf17_0 qf17_1 qf17_2 ya17 qa17_0 qa17_1 yb17 qb17_0 qb17_1 yk17 qk17_0 qk17_1 qk17_2 qk17_3
  have yf18 := Kf18.out.1
  have qf18_0 : w18.cell? ⟨w.heap.size, 0, none⟩ = some (.int .i64 C) := Kf18.out.2 0 (by simp)
  have qf18_1 : w18.cell? ⟨w.heap.size, 1, none⟩ = some (.int .i64 S) := Kf18.out.2 1 (by simp)
  have qf18_2 : w18.cell? ⟨w.heap.size, 2, none⟩ = some (.int .i64 P) := Kf18.out.2 2 (by simp)
  have ya18 := Ka18.out.1
  have qa18_0 : w18.cell? ⟨w.heap.size + 1, 0, none⟩ = some (.int .i64 X) := Ka18.out.2 0 (by simp)
  have qa18_1 : w18.cell? ⟨w.heap.size + 1, 1, none⟩ = some (.int .i64 Y) := Ka18.out.2 1 (by simp)
  have yb18 := Kb18.out.1
  have qb18_0 : w18.cell? ⟨w.heap.size + 2, 0, none⟩ = some (.int .i64 Z) := Kb18.out.2 0 (by simp)
  have qb18_1 : w18.cell? ⟨w.heap.size + 2, 1, none⟩ = some (.int .i64 t) := Kb18.out.2 1 (by simp)
  have yk18 := Kk18.out.1
  have qk18_0 : w18.cell? ⟨w4.heap.size, 0, none⟩ = some (.int .i64 C) := Kk18.out.2 0 (by simp)
  have qk18_1 : w18.cell? ⟨w4.heap.size, 1, none⟩ = some (.int .i64 S) := Kk18.out.2 1 (by simp)
  have qk18_2 : w18.cell? ⟨w4.heap.size, 2, none⟩ = some (.int .i64 P) := Kk18.out.2 2 (by simp)
  have qk18_3 : w18.cell? ⟨w4.heap.size, 3, none⟩ = some (.bool true) := Kk18.out.2 3 (by simp)
  go_wp2_with fail
  refine (cmul_any C S P X 0 _ _ HV.out (by omega) (by omega) (by omega) (by omega) Kk18.out Zk318.out).mono ?_
  rintro e w19 ⟨rfl, hb19⟩
  rw [M7.out]
  have Kf19 : Hid (CellsAt w19 (w.heap.size) [.int .i64 C, .int .i64 S, .int .i64 P]) := CellsAt.below (Kf18.out) hb19
  have Ka19 : Hid (CellsAt w19 (w.heap.size + 1) [.int .i64 X, .int .i64 Y]) := CellsAt.below (Ka18.out) hb19
  have Kb19 : Hid (CellsAt w19 (w.heap.size + 2) [.int .i64 Z, .int .i64 t]) := CellsAt.below (Kb18.out) hb19
  have Kk19 : Hid (CellsAt w19 (w4.heap.size) [.int .i64 C, .int .i64 S, .int .i64 P, .bool true]) := CellsAt.below (Kk18.out) hb19
  have Zk319 : Hid (FrzAt w19 (w4.heap.size) 3) := FrzAt.below (Zk318.out) hb19
  have HB19 : Hid (Below w.heap.size w w19) := bwStep (HB18.out) hb19
  clear hb19 yf18 qf18_0 qf18_1 qf18_2 ya18 qa18_0 qa18_1 yb18 qb18_0 qb18_1 yk18 qk18_0 qk18_1 qk18_2 qk18_3
  have yf19 := Kf19.out.1
  have qf19_0 : w19.cell? ⟨w.heap.size, 0, none⟩ = some (.int .i64 C) := Kf19.out.2 0 (by simp)
  have qf19_1 : w19.cell? ⟨w.heap.size, 1, none⟩ = some (.int .i64 S) := Kf19.out.2 1 (by simp)
  have qf19_2 : w19.cell? ⟨w.heap.size, 2, none⟩ = some (.int .i64 P) := Kf19.out.2 2 (by simp)
  have ya19 := Ka19.out.1
  have qa19_0 : w19.cell? ⟨w.heap.size + 1, 0, none⟩ = some (.int .i64 X) := Ka19.out.2 0 (by simp)
  have qa19_1 : w19.cell? ⟨w.heap.size + 1, 1, none⟩ = some (.int .i64 Y) := Ka19.out.2 1 (by simp)
  have yb19 := Kb19.out.1
  have qb19_0 : w19.cell? ⟨w.heap.size + 2, 0, none⟩ = some (.int .i64 Z) := Kb19.out.2 0 (by simp)
  have qb19_1 : w19.cell? ⟨w.heap.size + 2, 1, none⟩ = some (.int .i64 t) := Kb19.out.2 1 (by simp)
  have yk19 := Kk19.out.1
  have qk19_0 : w19.cell? ⟨w4.heap.size, 0, none⟩ = some (.int .i64 C) := Kk19.out.2 0 (by simp)
  have qk19_1 : w19.cell? ⟨w4.heap.size, 1, none⟩ = some (.int .i64 S) := Kk19.out.2 1 (by simp)
  have qk19_2 : w19.cell? ⟨w4.heap.size, 2, none⟩ = some (.int .i64 P) := Kk19.out.2 2 (by simp)
  have qk19_3 : w19.cell? ⟨w4.heap.size, 3, none⟩ = some (.bool true) := Kk19.out.2 3 (by simp)
  go_wp2_with fail
  refine (cadd_any C S P Y Z _ _ HV.out (by omega) (by omega) (by omega) (by omega) Kk19.out Zk319.out).mono ?_
  rintro e w20 ⟨rfl, hb20⟩
  rw [A3.out]
  have Kf20 : Hid (CellsAt w20 (w.heap.size) [.int .i64 C, .int .i64 S, .int .i64 P]) := CellsAt.below (Kf19.out) hb20
  have Ka20 : Hid (CellsAt w20 (w.heap.size + 1) [.int .i64 X, .int .i64 Y]) := CellsAt.below (Ka19.out) hb20
  have Kb20 : Hid (CellsAt w20 (w.heap.size + 2) [.int .i64 Z, .int .i64 t]) := CellsAt.below (Kb19.out) hb20
  have Kk20 : Hid (CellsAt w20 (w4.heap.size) [.int .i64 C, .int .i64 S, .int .i64 P, .bool true]) := CellsAt.below (Kk19.out) hb20
  have Zk320 : Hid (FrzAt w20 (w4.heap.size) 3) := FrzAt.below (Zk319.out) hb20
  have HB20 : Hid (Below w.heap.size w w20) := bwStep (HB19.out) hb20
  clear hb20 yf19 qf19_0 qf19_1 qf19_2 ya19 qa19_0 qa19_1 yb19 qb19_0 qb19_1 yk19 qk19_0 qk19_1 qk19_2 qk19_3
  have yf20 := Kf20.out.1
  have qf20_0 : w20.cell? ⟨w.heap.size, 0, none⟩ = some (.int .i64 C) := Kf20.out.2 0 (by simp)
  have qf20_1 : w20.cell? ⟨w.heap.size, 1, none⟩ = some (.int .i64 S) := Kf20.out.2 1 (by simp)
  have qf20_2 : w20.cell? ⟨w.heap.size, 2, none⟩ = some (.int .i64 P) := Kf20.out.2 2 (by simp)
  have ya20 := Ka20.out.1
  have qa20_0 : w20.cell? ⟨w.heap.size + 1, 0, none⟩ = some (.int .i64 X) := Ka20.out.2 0 (by simp)
  have qa20_1 : w20.cell? ⟨w.heap.size + 1, 1, none⟩ = some (.int .i64 Y) := Ka20.out.2 1 (by simp)
  have yb20 := Kb20.out.1
  have qb20_0 : w20.cell? ⟨w.heap.size + 2, 0, none⟩ = some (.int .i64 Z) := Kb20.out.2 0 (by simp)
  have qb20_1 : w20.cell? ⟨w.heap.size + 2, 1, none⟩ = some (.int .i64 t) := Kb20.out.2 1 (by simp)
  have yk20 := Kk20.out.1
  have qk20_0 : w20.cell? ⟨w4.heap.size, 0, none⟩ = some (.int .i64 C) := Kk20.out.2 0 (by simp)
  have qk20_1 : w20.cell? ⟨w4.heap.size, 1, none⟩ = some (.int .i64 S) := Kk20.out.2 1 (by simp)
  have qk20_2 : w20.cell? ⟨w4.heap.size, 2, none⟩ = some (.int .i64 P) := Kk20.out.2 2 (by simp)
  have qk20_3 : w20.cell? ⟨w4.heap.size, 3, none⟩ = some (.bool true) := Kk20.out.2 3 (by simp)
  go_wp2_with fail
  refine (cmul_any C S P X s3 _ _ HV.out (by omega) (by omega) (by omega) (by omega) Kk20.out Zk320.out).mono ?_
  rintro e w21 ⟨rfl, hb21⟩
  rw [B1.out]
  have Kf21 : Hid (CellsAt w21 (w.heap.size) [.int .i64 C, .int .i64 S, .int .i64 P]) := CellsAt.below (Kf20.out) hb21
  have Ka21 : Hid (CellsAt w21 (w.heap.size + 1) [.int .i64 X, .int .i64 Y]) := CellsAt.below (Ka20.out) hb21
  have Kb21 : Hid (CellsAt w21 (w.heap.size + 2) [.int .i64 Z, .int .i64 t]) := CellsAt.below (Kb20.out) hb21
  have Kk21 : Hid (CellsAt w21 (w4.heap.size) [.int .i64 C, .int .i64 S, .int .i64 P, .bool true]) := CellsAt.below (Kk20.out) hb21
  have Zk321 : Hid (FrzAt w21 (w4.heap.size) 3) := FrzAt.below (Zk320.out) hb21
  have HB21 : Hid (Below w.heap.size w w21) := bwStep (HB20.out) hb21
  clear hb21 yf20 qf20_0 qf20_1 qf20_2 ya20 qa20_0 qa20_1 yb20 qb20_0 qb20_1 yk20 qk20_0 qk20_1 qk20_2 qk20_3
  have yf21 := Kf21.out.1
  have qf21_0 : w21.cell? ⟨w.heap.size, 0, none⟩ = some (.int .i64 C) := Kf21.out.2 0 (by simp)
  have qf21_1 : w21.cell? ⟨w.heap.size, 1, none⟩ = some (.int .i64 S) := Kf21.out.2 1 (by simp)
  have qf21_2 : w21.cell? ⟨w.heap.size, 2, none⟩ = some (.int .i64 P) := Kf21.out.2 2 (by simp)
  have ya21 := Ka21.out.1
  have qa21_0 : w21.cell? ⟨w.heap.size + 1, 0, none⟩ = some (.int .i64 X) := Ka21.out.2 0 (by simp)
  have qa21_1 : w21.cell? ⟨w.heap.size + 1, 1, none⟩ = some (.int .i64 Y) := Ka21.out.2 1 (by simp)
  have yb21 := Kb21.out.1
  have qb21_0 : w21.cell? ⟨w.heap.size + 2, 0, none⟩ = some (.int .i64 Z) := Kb21.out.2 0 (by simp)
  have qb21_1 : w21.cell? ⟨w.heap.size + 2, 1, none⟩ = some (.int .i64 t) := Kb21.out.2 1 (by simp)
  have yk21 := Kk21.out.1
  have qk21_0 : w21.cell? ⟨w4.heap.size, 0, none⟩ = some (.int .i64 C) := Kk21.out.2 0 (by simp)
  have qk21_1 : w21.cell? ⟨w4.heap.size, 1, none⟩ = some (.int .i64 S) := Kk21.out.2 1 (by simp)
  have qk21_2 : w21.cell? ⟨w4.heap.size, 2, none⟩ = some (.int .i64 P) := Kk21.out.2 2 (by simp)
  have qk21_3 : w21.cell? ⟨w4.heap.size, 3, none⟩ = some (.bool true) := Kk21.out.2 3 (by simp)
  go_wp2_with fail
  refine (cmul_any C S P X Y _ _ HV.out (by omega) (by omega) (by omega) (by omega) Kk21.out Zk321.out).mono ?_
  rintro e w22 ⟨rfl, hb22⟩
  rw [M1.out]
  have Kf22 : Hid (CellsAt w22 (w.heap.size) [.int .i64 C, .int .i64 S, .int .i64 P]) := CellsAt.below (Kf21.out) hb22
  have Ka22 : Hid (CellsAt w22 (w.heap.size + 1) [.int .i64 X, .int .i64 Y]) := CellsAt.below (Ka21.out) hb22
  have Kb22 : Hid (CellsAt w22 (w.heap.size + 2) [.int .i64 Z, .int .i64 t]) := CellsAt.below (Kb21.out) hb22
  have Kk22 : Hid (CellsAt w22 (w4.heap.size) [.int .i64 C, .int .i64 S, .int .i64 P, .bool true]) := CellsAt.below (Kk21.out) hb22
  have Zk322 : Hid (FrzAt w22 (w4.heap.size) 3) := FrzAt.below (Zk321.out) hb22
  have HB22 : Hid (Below w.heap.size w w22) := bwStep (HB21.out) hb22
  clear hb22 yf21 qf21_0 qf21_1 qf21_2 ya21 qa21_0 qa21_1 yb21 qb21_0 qb21_1 yk21 qk21_0 qk21_1 qk21_2 qk21_3
  have yf22 := Kf22.out.1
  have qf22_0 : w22.cell? ⟨w.heap.size, 0, none⟩ = some (.int .i64 C) := Kf22.out.2 0 (by simp)
  have qf22_1 : w22.cell? ⟨w.heap.size, 1, none⟩ = some (.int .i64 S) := Kf22.out.2 1 (by simp)
  have qf22_2 : w22.cell? ⟨w.heap.size, 2, none⟩ = some (.int .i64 P) := Kf22.out.2 2 (by simp)
  have ya22 := Ka22.out.1
  have qa22_0 : w22.cell? ⟨w.heap.size + 1, 0, none⟩ = some (.int .i64 X) := Ka22.out.2 0 (by simp)
  have qa22_1 : w22.cell? ⟨w.heap.size + 1, 1, none⟩ = some (.int .i64 Y) := Ka22.out.2 1 (by simp)
  have yb22 := Kb22.out.1
  have qb22_0 : w22.cell? ⟨w.heap.size + 2, 0, none⟩ = some (.int .i64 Z) := Kb22.out.2 0 (by simp)
  have qb22_1 : w22.cell? ⟨w.heap.size + 2, 1, none⟩ = some (.int .i64 t) := Kb22.out.2 1 (by simp)
  have yk22 := Kk22.out.1
  have qk22_0 : w22.cell? ⟨w4.heap.size, 0, none⟩ = some (.int .i64 C) := Kk22.out.2 0 (by simp)
  have qk22_1 : w22.cell? ⟨w4.heap.size, 1, none⟩ = some (.int .i64 S) := Kk22.out.2 1 (by simp)
  have qk22_2 : w22.cell? ⟨w4.heap.size, 2, none⟩ = some (.int .i64 P) := Kk22.out.2 2 (by simp)
  have qk22_3 : w22.cell? ⟨w4.heap.size, 3, none⟩ = some (.bool true) := Kk22.out.2 3 (by simp)
  go_wp2_with fail
  refine (cmul_any C S P X Z _ _ HV.out (by omega) (by omega) (by omega) (by omega) Kk22.out Zk322.out).mono ?_
  rintro e w23 ⟨rfl, hb23⟩
  rw [B2.out]
  have Kf23 : Hid (CellsAt w23 (w.heap.size) [.int .i64 C, .int .i64 S, .int .i64 P]) := CellsAt.below (Kf22.out) hb23
  have Ka23 : Hid (CellsAt w23 (w.heap.size + 1) [.int .i64 X, .int .i64 Y]) := CellsAt.below (Ka22.out) hb23
  have Kb23 : Hid (CellsAt w23 (w.heap.size + 2) [.int .i64 Z, .int .i64 t]) := CellsAt.below (Kb22.out) hb23
  have Kk23 : Hid (CellsAt w23 (w4.heap.size) [.int .i64 C, .int .i64 S, .int .i64 P, .bool true]) := CellsAt.below (Kk22.out) hb23
  have Zk323 : Hid (FrzAt w23 (w4.heap.size) 3) := FrzAt.below (Zk322.out) hb23
  have HB23 : Hid (Below w.heap.size w w23) := bwStep (HB22.out) hb23
  clear hb23 yf22 qf22_0 qf22_1 qf22_2 ya22 qa22_0 qa22_1 yb22 qb22_0 qb22_1 yk22 qk22_0 qk22_1 qk22_2 qk22_3
  have yf23 := Kf23.out.1
  have qf23_0 : w23.cell? ⟨w.heap.size, 0, none⟩ = some (.int .i64 C) := Kf23.out.2 0 (by simp)
  have qf23_1 : w23.cell? ⟨w.heap.size, 1, none⟩ = some (.int .i64 S) := Kf23.out.2 1 (by simp)
  have qf23_2 : w23.cell? ⟨w.heap.size, 2, none⟩ = some (.int .i64 P) := Kf23.out.2 2 (by simp)
  have ya23 := Ka23.out.1
  have qa23_0 : w23.cell? ⟨w.heap.size + 1, 0, none⟩ = some (.int .i64 X) := Ka23.out.2 0 (by simp)
  have qa23_1 : w23.cell? ⟨w.heap.size + 1, 1, none⟩ = some (.int .i64 Y) := Ka23.out.2 1 (by simp)
  have yb23 := Kb23.out.1
  have qb23_0 : w23.cell? ⟨w.heap.size + 2, 0, none⟩ = some (.int .i64 Z) := Kb23.out.2 0 (by simp)
  have qb23_1 : w23.cell? ⟨w.heap.size + 2, 1, none⟩ = some (.int .i64 t) := Kb23.out.2 1 (by simp)
  have yk23 := Kk23.out.1
  have qk23_0 : w23.cell? ⟨w4.heap.size, 0, none⟩ = some (.int .i64 C) := Kk23.out.2 0 (by simp)
  have qk23_1 : w23.cell? ⟨w4.heap.size, 1, none⟩ = some (.int .i64 S) := Kk23.out.2 1 (by simp)
  have qk23_2 : w23.cell? ⟨w4.heap.size, 2, none⟩ = some (.int .i64 P) := Kk23.out.2 2 (by simp)
  have qk23_3 : w23.cell? ⟨w4.heap.size, 3, none⟩ = some (.bool true) := Kk23.out.2 3 (by simp)
  go_wp2_with fail
  refine (cadd_any C S P m1 m4 _ _ HV.out (by omega) (by omega) (by omega) (by omega) Kk23.out Zk323.out).mono ?_
  rintro e w24 ⟨rfl, hb24⟩
  rw [B3.out]
  have Kf24 : Hid (CellsAt w24 (w.heap.size) [.int .i64 C, .int .i64 S, .int .i64 P]) := CellsAt.below (Kf23.out) hb24
  have Ka24 : Hid (CellsAt w24 (w.heap.size + 1) [.int .i64 X, .int .i64 Y]) := CellsAt.below (Ka23.out) hb24
  have Kb24 : Hid (CellsAt w24 (w.heap.size + 2) [.int .i64 Z, .int .i64 t]) := CellsAt.below (Kb23.out) hb24
  have Kk24 : Hid (CellsAt w24 (w4.heap.size) [.int .i64 C, .int .i64 S, .int .i64 P, .bool true]) := CellsAt.below (Kk23.out) hb24
  have Zk324 : Hid (FrzAt w24 (w4.heap.size) 3) := FrzAt.below (Zk323.out) hb24
  have HB24 : Hid (Below w.heap.size w w24) := bwStep (HB23.out) hb24
  clear hb24 yf23 qf23_0 qf23_1 qf23_2 ya23 qa23_0 qa23_1 yb23 qb23_0 qb23_1 yk23 qk23_0 qk23_1 qk23_2 qk23_3
  have yf24 := Kf24.out.1
  have qf24_0 : w24.cell? ⟨w.heap.size, 0, none⟩ = some (.int .i64 C) := Kf24.out.2 0 (by simp)
  have qf24_1 : w24.cell? ⟨w.heap.size, 1, none⟩ = some (.int .i64 S) := Kf24.out.2 1 (by simp)
  have qf24_2 : w24.cell? ⟨w.heap.size, 2, none⟩ = some (.int .i64 P) := Kf24.out.2 2 (by simp)
  have ya24 := Ka24.out.1
  have qa24_0 : w24.cell? ⟨w.heap.size + 1, 0, none⟩ = some (.int .i64 X) := Ka24.out.2 0 (by simp)
  have qa24_1 : w24.cell? ⟨w.heap.size + 1, 1, none⟩ = some (.int .i64 Y) := Ka24.out.2 1 (by simp)
  have yb24 := Kb24.out.1
  have qb24_0 : w24.cell? ⟨w.heap.size + 2, 0, none⟩ = some (.int .i64 Z) := Kb24.out.2 0 (by simp)
  have qb24_1 : w24.cell? ⟨w.heap.size + 2, 1, none⟩ = some (.int .i64 t) := Kb24.out.2 1 (by simp)
  have yk24 := Kk24.out.1
  have qk24_0 : w24.cell? ⟨w4.heap.size, 0, none⟩ = some (.int .i64 C) := Kk24.out.2 0 (by simp)
  have qk24_1 : w24.cell? ⟨w4.heap.size, 1, none⟩ = some (.int .i64 S) := Kk24.out.2 1 (by simp)
  have qk24_2 : w24.cell? ⟨w4.heap.size, 2, none⟩ = some (.int .i64 P) := Kk24.out.2 2 (by simp)
  have qk24_3 : w24.cell? ⟨w4.heap.size, 3, none⟩ = some (.bool true) := Kk24.out.2 3 (by simp)
  go_wp2_with fail
  refine (Sub_any C S P 0 X _ (by omega) hP).mono ?_
  rintro e w25 ⟨rfl, hb25⟩
  rw [RS.out]
  have Kf25 : Hid (CellsAt w25 (w.heap.size) [.int .i64 C, .int .i64 S, .int .i64 P]) := CellsAt.below (Kf24.out) hb25
  have Ka25 : Hid (CellsAt w25 (w.heap.size + 1) [.int .i64 X, .int .i64 Y]) := CellsAt.below (Ka24.out) hb25
  have Kb25 : Hid (CellsAt w25 (w.heap.size + 2) [.int .i64 Z, .int .i64 t]) := CellsAt.below (Kb24.out) hb25
  have Kk25 : Hid (CellsAt w25 (w4.heap.size) [.int .i64 C, .int .i64 S, .int .i64 P, .bool true]) := CellsAt.below (Kk24.out) hb25
  have Zk325 : Hid (FrzAt w25 (w4.heap.size) 3) := FrzAt.below (Zk324.out) hb25
  have HB25 : Hid (Below w.heap.size w w25) := bwStep (HB24.out) hb25
  clear hb25 yf24 qf24_0 qf24_1 qf24_2 ya24 qa24_0 qa24_1 yb24 qb24_0 qb24_1 yk24 qk24_0 qk24_1 qk24_2 qk24_3
  have yf25 := Kf25.out.1
  have qf25_0 : w25.cell? ⟨w.heap.size, 0, none⟩ = some (.int .i64 C) := Kf25.out.2 0 (by simp)
  have qf25_1 : w25.cell? ⟨w.heap.size, 1, none⟩ = some (.int .i64 S) := Kf25.out.2 1 (by simp)
  have qf25_2 : w25.cell? ⟨w.heap.size, 2, none⟩ = some (.int .i64 P) := Kf25.out.2 2 (by simp)
  have ya25 := Ka25.out.1
  have qa25_0 : w25.cell? ⟨w.heap.size + 1, 0, none⟩ = some (.int .i64 X) := Ka25.out.2 0 (by simp)
  have qa25_1 : w25.cell? ⟨w.heap.size + 1, 1, none⟩ = some (.int .i64 Y) := Ka25.out.2 1 (by simp)
  have yb25 := Kb25.out.1
  have qb25_0 : w25.cell? ⟨w.heap.size + 2, 0, none⟩ = some (.int .i64 Z) := Kb25.out.2 0 (by simp)
  have qb25_1 : w25.cell? ⟨w.heap.size + 2, 1, none⟩ = some (.int .i64 t) := Kb25.out.2 1 (by simp)
  have yk25 := Kk25.out.1
  have qk25_0 : w25.cell? ⟨w4.heap.size, 0, none⟩ = some (.int .i64 C) := Kk25.out.2 0 (by simp)
  have qk25_1 : w25.cell? ⟨w4.heap.size, 1, none⟩ = some (.int .i64 S) := Kk25.out.2 1 (by simp)
  have qk25_2 : w25.cell? ⟨w4.heap.size, 2, none⟩ = some (.int .i64 P) := Kk25.out.2 2 (by simp)
  have qk25_3 : w25.cell? ⟨w4.heap.size, 3, none⟩ = some (.bool true) := Kk25.out.2 3 (by simp)
  go_wp2_with fail
  refine (Sub_any C S P X Y _ (by omega) hP).mono ?_
  rintro e w26 ⟨rfl, hb26⟩
  rw [RD.out]
  have Kf26 : Hid (CellsAt w26 (w.heap.size) [.int .i64 C, .int .i64 S, .int .i64 P]) := CellsAt.below (Kf25.out) hb26
  have Ka26 : Hid (CellsAt w26 (w.heap.size + 1) [.int .i64 X, .int .i64 Y]) := CellsAt.below (Ka25.out) hb26
  have Kb26 : Hid (CellsAt w26 (w.heap.size + 2) [.int .i64 Z, .int .i64 t]) := CellsAt.below (Kb25.out) hb26
  have Kk26 : Hid (CellsAt w26 (w4.heap.size) [.int .i64 C, .int .i64 S, .int .i64 P, .bool true]) := CellsAt.below (Kk25.out) hb26
  have Zk326 : Hid (FrzAt w26 (w4.heap.size) 3) := FrzAt.below (Zk325.out) hb26
  have HB26 : Hid (Below w.heap.size w w26) := bwStep (HB25.out) hb26
  clear hb26 yf25 qf25_0 qf25_1 qf25_2 ya25 qa25_0 qa25_1 yb25 qb25_0 qb25_1 yk25 qk25_0 qk25_1 qk25_2 qk25_3
  have yf26 := Kf26.out.1
  have qf26_0 : w26.cell? ⟨w.heap.size, 0, none⟩ = some (.int .i64 C) := Kf26.out.2 0 (by simp)
  have qf26_1 : w26.cell? ⟨w.heap.size, 1, none⟩ = some (.int .i64 S) := Kf26.out.2 1 (by simp)
  have qf26_2 : w26.cell? ⟨w.heap.size, 2, none⟩ = some (.int .i64 P) := Kf26.out.2 2 (by simp)
  have ya26 := Ka26.out.1
  have qa26_0 : w26.cell? ⟨w.heap.size + 1, 0, none⟩ = some (.int .i64 X) := Ka26.out.2 0 (by simp)
  have qa26_1 : w26.cell? ⟨w.heap.size + 1, 1, none⟩ = some (.int .i64 Y) := Ka26.out.2 1 (by simp)
  have yb26 := Kb26.out.1
  have qb26_0 : w26.cell? ⟨w.heap.size + 2, 0, none⟩ = some (.int .i64 Z) := Kb26.out.2 0 (by simp)
  have qb26_1 : w26.cell? ⟨w.heap.size + 2, 1, none⟩ = some (.int .i64 t) := Kb26.out.2 1 (by simp)
  have yk26 := Kk26.out.1
  have qk26_0 : w26.cell? ⟨w4.heap.size, 0, none⟩ = some (.int .i64 C) := Kk26.out.2 0 (by simp)
  have qk26_1 : w26.cell? ⟨w4.heap.size, 1, none⟩ = some (.int .i64 S) := Kk26.out.2 1 (by simp)
  have qk26_2 : w26.cell? ⟨w4.heap.size, 2, none⟩ = some (.int .i64 P) := Kk26.out.2 2 (by simp)
  have qk26_3 : w26.cell? ⟨w4.heap.size, 3, none⟩ = some (.bool true) := Kk26.out.2 3 (by simp)
  go_wp2_with fail
  refine (cadd_any C S P X n1 _ _ HV.out (by omega) (by omega) (by omega) (by omega) Kk26.out Zk326.out).mono ?_
  rintro e w27 ⟨rfl, hb27⟩
  rw [N1.out]
  have Kf27 : Hid (CellsAt w27 (w.heap.size) [.int .i64 C, .int .i64 S, .int .i64 P]) := CellsAt.below (Kf26.out) hb27
  have Ka27 : Hid (CellsAt w27 (w.heap.size + 1) [.int .i64 X, .int .i64 Y]) := CellsAt.below (Ka26.out) hb27
  have Kb27 : Hid (CellsAt w27 (w.heap.size + 2) [.int .i64 Z, .int .i64 t]) := CellsAt.below (Kb26.out) hb27
  have Kk27 : Hid (CellsAt w27 (w4.heap.size) [.int .i64 C, .int .i64 S, .int .i64 P, .bool true]) := CellsAt.below (Kk26.out) hb27
  have Zk327 : Hid (FrzAt w27 (w4.heap.size) 3) := FrzAt.below (Zk326.out) hb27
  have HB27 : Hid (Below w.heap.size w w27) := bwStep (HB26.out) hb27
  clear hb27 yf26 qf26_0 qf26_1 qf26_2 ya26 qa26_0 qa26_1 yb26 qb26_0 qb26_1 yk26 qk26_0 qk26_1 qk26_2 qk26_3
  have yf27 := Kf27.out.1
  have qf27_0 : w27.cell? ⟨w.heap.size, 0, none⟩ = some (.int .i64 C) := Kf27.out.2 0 (by simp)
  have qf27_1 : w27.cell? ⟨w.heap.size, 1, none⟩ = some (.int .i64 S) := Kf27.out.2 1 (by simp)
  have qf27_2 : w27.cell? ⟨w.heap.size, 2, none⟩ = some (.int .i64 P) := Kf27.out.2 2 (by simp)
  have ya27 := Ka27.out.1
  have qa27_0 : w27.cell? ⟨w.heap.size + 1, 0, none⟩ = some (.int .i64 X) := Ka27.out.2 0 (by simp)
  have qa27_1 : w27.cell? ⟨w.heap.size + 1, 1, none⟩ = some (.int .i64 Y) := Ka27.out.2 1 (by simp)
  have yb27 := Kb27.out.1
  have qb27_0 : w27.cell? ⟨w.heap.size + 2, 0, none⟩ = some (.int .i64 Z) := Kb27.out.2 0 (by simp)
  have qb27_1 : w27.cell? ⟨w.heap.size + 2, 1, none⟩ = some (.int .i64 t) := Kb27.out.2 1 (by simp)
  have yk27 := Kk27.out.1
  have qk27_0 : w27.cell? ⟨w4.heap.size, 0, none⟩ = some (.int .i64 C) := Kk27.out.2 0 (by simp)
  have qk27_1 : w27.cell? ⟨w4.heap.size, 1, none⟩ = some (.int .i64 S) := Kk27.out.2 1 (by simp)
  have qk27_2 : w27.cell? ⟨w4.heap.size, 2, none⟩ = some (.int .i64 P) := Kk27.out.2 2 (by simp)
  have qk27_3 : w27.cell? ⟨w4.heap.size, 3, none⟩ = some (.bool true) := Kk27.out.2 3 (by simp)
  go_wp2_with fail
  refine (cadd_any C S P d1 Y _ _ HV.out (by omega) (by omega) (by omega) (by omega) Kk27.out Zk327.out).mono ?_
  rintro e w28 ⟨rfl, hb28⟩
  rw [D1.out]
  have Kf28 : Hid (CellsAt w28 (w.heap.size) [.int .i64 C, .int .i64 S, .int .i64 P]) := CellsAt.below (Kf27.out) hb28
  have Ka28 : Hid (CellsAt w28 (w.heap.size + 1) [.int .i64 X, .int .i64 Y]) := CellsAt.below (Ka27.out) hb28
  have Kb28 : Hid (CellsAt w28 (w.heap.size + 2) [.int .i64 Z, .int .i64 t]) := CellsAt.below (Kb27.out) hb28
  have Kk28 : Hid (CellsAt w28 (w4.heap.size) [.int .i64 C, .int .i64 S, .int .i64 P, .bool true]) := CellsAt.below (Kk27.out) hb28
  have Zk328 : Hid (FrzAt w28 (w4.heap.size) 3) := FrzAt.below (Zk327.out) hb28
  have HB28 : Hid (Below w.heap.size w w28) := bwStep (HB27.out) hb28
  clear hb28 yf27 qf27_0 qf27_1 qf27_2 ya27 qa27_0 qa27_1 yb27 qb27_0 qb27_1 yk27 qk27_0 qk27_1 qk27_2 qk27_3
  have yf28 := Kf28.out.1
  have qf28_0 : w28.cell? ⟨w.heap.size, 0, none⟩ = some (.int .i64 C) := Kf28.out.2 0 (by simp)
  have qf28_1 : w28.cell? ⟨w.heap.size, 1, none⟩ = some (.int .i64 S) := Kf28.out.2 1 (by simp)
  have qf28_2 : w28.cell? ⟨w.heap.size, 2, none⟩ = some (.int .i64 P) := Kf28.out.2 2 (by simp)
  have ya28 := Ka28.out.1
  have qa28_0 : w28.cell? ⟨w.heap.size + 1, 0, none⟩ = some (.int .i64 X) := Ka28.out.2 0 (by simp)
  have qa28_1 : w28.cell? ⟨w.heap.size + 1, 1, none⟩ = some (.int .i64 Y) := Ka28.out.2 1 (by simp)
  have yb28 := Kb28.out.1
  have qb28_0 : w28.cell? ⟨w.heap.size + 2, 0, none⟩ = some (.int .i64 Z) := Kb28.out.2 0 (by simp)
  have qb28_1 : w28.cell? ⟨w.heap.size + 2, 1, none⟩ = some (.int .i64 t) := Kb28.out.2 1 (by simp)
  have yk28 := Kk28.out.1
  have qk28_0 : w28.cell? ⟨w4.heap.size, 0, none⟩ = some (.int .i64 C) := Kk28.out.2 0 (by simp)
  have qk28_1 : w28.cell? ⟨w4.heap.size, 1, none⟩ = some (.int .i64 S) := Kk28.out.2 1 (by simp)
  have qk28_2 : w28.cell? ⟨w4.heap.size, 2, none⟩ = some (.int .i64 P) := Kk28.out.2 2 (by simp)
  have qk28_3 : w28.cell? ⟨w4.heap.size, 3, none⟩ = some (.bool true) := Kk28.out.2 3 (by simp)
  go_wp2_with fail
  refine (Inv_any C S P X _ (by omega) hP).mono ?_
  rintro e w29 ⟨rfl, hb29⟩
  rw [RI.out]
  have Kf29 : Hid (CellsAt w29 (w.heap.size) [.int .i64 C, .int .i64 S, .int .i64 P]) := CellsAt.below (Kf28.out) hb29
  have Ka29 : Hid (CellsAt w29 (w.heap.size + 1) [.int .i64 X, .int .i64 Y]) := CellsAt.below (Ka28.out) hb29
  have Kb29 : Hid (CellsAt w29 (w.heap.size + 2) [.int .i64 Z, .int .i64 t]) := CellsAt.below (Kb28.out) hb29
  have Kk29 : Hid (CellsAt w29 (w4.heap.size) [.int .i64 C, .int .i64 S, .int .i64 P, .bool true]) := CellsAt.below (Kk28.out) hb29
  have Zk329 : Hid (FrzAt w29 (w4.heap.size) 3) := FrzAt.below (Zk328.out) hb29
  have HB29 : Hid (Below w.heap.size w w29) := bwStep (HB28.out) hb29
  clear hb29 yf28 qf28_0 qf28_1 qf28_2 ya28 qa28_0 qa28_1 yb28 qb28_0 qb28_1 yk28 qk28_0 qk28_1 qk28_2 qk28_3
  have yf29 := Kf29.out.1
  have qf29_0 : w29.cell? ⟨w.heap.size, 0, none⟩ = some (.int .i64 C) := Kf29.out.2 0 (by simp)
  have qf29_1 : w29.cell? ⟨w.heap.size, 1, none⟩ = some (.int .i64 S) := Kf29.out.2 1 (by simp)
  have qf29_2 : w29.cell? ⟨w.heap.size, 2, none⟩ = some (.int .i64 P) := Kf29.out.2 2 (by simp)
  have ya29 := Ka29.out.1
  have qa29_0 : w29.cell? ⟨w.heap.size + 1, 0, none⟩ = some (.int .i64 X) := Ka29.out.2 0 (by simp)
  have qa29_1 : w29.cell? ⟨w.heap.size + 1, 1, none⟩ = some (.int .i64 Y) := Ka29.out.2 1 (by simp)
  have yb29 := Kb29.out.1
  have qb29_0 : w29.cell? ⟨w.heap.size + 2, 0, none⟩ = some (.int .i64 Z) := Kb29.out.2 0 (by simp)
  have qb29_1 : w29.cell? ⟨w.heap.size + 2, 1, none⟩ = some (.int .i64 t) := Kb29.out.2 1 (by simp)
  have yk29 := Kk29.out.1
  have qk29_0 : w29.cell? ⟨w4.heap.size, 0, none⟩ = some (.int .i64 C) := Kk29.out.2 0 (by simp)
  have qk29_1 : w29.cell? ⟨w4.heap.size, 1, none⟩ = some (.int .i64 S) := Kk29.out.2 1 (by simp)
  have qk29_2 : w29.cell? ⟨w4.heap.size, 2, none⟩ = some (.int .i64 P) := Kk29.out.2 2 (by simp)
  have qk29_3 : w29.cell? ⟨w4.heap.size, 3, none⟩ = some (.bool true) := Kk29.out.2 3 (by simp)
  go_wp2_with fail
  refine (cmul_any C S P X v1 _ _ HV.out (by omega) (by omega) (by omega) (by omega) Kk29.out Zk329.out).mono ?_
  rintro e w30 ⟨rfl, hb30⟩
  rw [V1.out]
  have Kf30 : Hid (CellsAt w30 (w.heap.size) [.int .i64 C, .int .i64 S, .int .i64 P]) := CellsAt.below (Kf29.out) hb30
  have Ka30 : Hid (CellsAt w30 (w.heap.size + 1) [.int .i64 X, .int .i64 Y]) := CellsAt.below (Ka29.out) hb30
  have Kb30 : Hid (CellsAt w30 (w.heap.size + 2) [.int .i64 Z, .int .i64 t]) := CellsAt.below (Kb29.out) hb30
  have Kk30 : Hid (CellsAt w30 (w4.heap.size) [.int .i64 C, .int .i64 S, .int .i64 P, .bool true]) := CellsAt.below (Kk29.out) hb30
  have Zk330 : Hid (FrzAt w30 (w4.heap.size) 3) := FrzAt.below (Zk329.out) hb30
  have HB30 : Hid (Below w.heap.size w w30) := bwStep (HB29.out) hb30
  clear hb30 yf29 qf29_0 qf29_1 qf29_2 ya29 qa29_0 qa29_1 yb29 qb29_0 qb29_1 yk29 qk29_0 qk29_1 qk29_2 qk29_3
  have yf30 := Kf30.out.1
  have qf30_0 : w30.cell? ⟨w.heap.size, 0, none⟩ = some (.int .i64 C) := Kf30.out.2 0 (by simp)
  have qf30_1 : w30.cell? ⟨w.heap.size, 1, none⟩ = some (.int .i64 S) := Kf30.out.2 1 (by simp)
  have qf30_2 : w30.cell? ⟨w.heap.size, 2, none⟩ = some (.int .i64 P) := Kf30.out.2 2 (by simp)
  have ya30 := Ka30.out.1
  have qa30_0 : w30.cell? ⟨w.heap.size + 1, 0, none⟩ = some (.int .i64 X) := Ka30.out.2 0 (by simp)
  have qa30_1 : w30.cell? ⟨w.heap.size + 1, 1, none⟩ = some (.int .i64 Y) := Ka30.out.2 1 (by simp)
  have yb30 := Kb30.out.1
  have qb30_0 : w30.cell? ⟨w.heap.size + 2, 0, none⟩ = some (.int .i64 Z) := Kb30.out.2 0 (by simp)
  have qb30_1 : w30.cell? ⟨w.heap.size + 2, 1, none⟩ = some (.int .i64 t) := Kb30.out.2 1 (by simp)
  have yk30 := Kk30.out.1
  have qk30_0 : w30.cell? ⟨w4.heap.size, 0, none⟩ = some (.int .i64 C) := Kk30.out.2 0 (by simp)
  have qk30_1 : w30.cell? ⟨w4.heap.size, 1, none⟩ = some (.int .i64 S) := Kk30.out.2 1 (by simp)
  have qk30_2 : w30.cell? ⟨w4.heap.size, 2, none⟩ = some (.int .i64 P) := Kk30.out.2 2 (by simp)
  have qk30_3 : w30.cell? ⟨w4.heap.size, 3, none⟩ = some (.bool true) := Kk30.out.2 3 (by simp)
  go_wp2_with fail
  refine (alive_any _).mono ?_
  rintro e w31 ⟨rfl, hb31⟩
  have Kf31 : Hid (CellsAt w31 (w.heap.size) [.int .i64 C, .int .i64 S, .int .i64 P]) := CellsAt.below (Kf30.out) hb31
  have Ka31 : Hid (CellsAt w31 (w.heap.size + 1) [.int .i64 X, .int .i64 Y]) := CellsAt.below (Ka30.out) hb31
  have Kb31 : Hid (CellsAt w31 (w.heap.size + 2) [.int .i64 Z, .int .i64 t]) := CellsAt.below (Kb30.out) hb31
  have Kk31 : Hid (CellsAt w31 (w4.heap.size) [.int .i64 C, .int .i64 S, .int .i64 P, .bool true]) := CellsAt.below (Kk30.out) hb31
  have Zk331 : Hid (FrzAt w31 (w4.heap.size) 3) := FrzAt.below (Zk330.out) hb31
  have HB31 : Hid (Below w.heap.size w w31) := bwStep (HB30.out) hb31
  clear hb31 yf30 qf30_0 qf30_1 qf30_2 ya30 qa30_0 qa30_1 yb30 qb30_0 qb30_1 yk30 qk30_0 qk30_1 qk30_2 qk30_3
  have yf31 := Kf31.out.1
  have qf31_0 : w31.cell? ⟨w.heap.size, 0, none⟩ = some (.int .i64 C) := Kf31.out.2 0 (by simp)
  have qf31_1 : w31.cell? ⟨w.heap.size, 1, none⟩ = some (.int .i64 S) := Kf31.out.2 1 (by simp)
  have qf31_2 : w31.cell? ⟨w.heap.size, 2, none⟩ = some (.int .i64 P) := Kf31.out.2 2 (by simp)
  have ya31 := Ka31.out.1
  have qa31_0 : w31.cell? ⟨w.heap.size + 1, 0, none⟩ = some (.int .i64 X) := Ka31.out.2 0 (by simp)
  have qa31_1 : w31.cell? ⟨w.heap.size + 1, 1, none⟩ = some (.int .i64 Y) := Ka31.out.2 1 (by simp)
  have yb31 := Kb31.out.1
  have qb31_0 : w31.cell? ⟨w.heap.size + 2, 0, none⟩ = some (.int .i64 Z) := Kb31.out.2 0 (by simp)
  have qb31_1 : w31.cell? ⟨w.heap.size + 2, 1, none⟩ = some (.int .i64 t) := Kb31.out.2 1 (by simp)
  have yk31 := Kk31.out.1
  have qk31_0 : w31.cell? ⟨w4.heap.size, 0, none⟩ = some (.int .i64 C) := Kk31.out.2 0 (by simp)
  have qk31_1 : w31.cell? ⟨w4.heap.size, 1, none⟩ = some (.int .i64 S) := Kk31.out.2 1 (by simp)
  have qk31_2 : w31.cell? ⟨w4.heap.size, 2, none⟩ = some (.int .i64 P) := Kk31.out.2 2 (by simp)
  have qk31_3 : w31.cell? ⟨w4.heap.size, 3, none⟩ = some (.bool true) := Kk31.out.2 3 (by simp)
  go_wp2_with fail
  go_ret
  exact ⟨rfl, HB31.out⟩
theorem law_walk (c s p x y z t : Int) (bc : I64 c) (bs : I64 s) (bp : I64 p) (w : World) :
    Calls Try.prog 7 #[.agg #[.int .i64 c, .int .i64 s, .int .i64 p], .agg #[.int .i64 x, .int .i64 y], .agg #[.int .i64 z, .int .i64 t]] w fun e w' => e = .returned (.bool true) ∧ Below w.heap.size w w' := by
  cases hx0 : vldB c s p
  · exact no0 c s p x y z t w bc bs bp hx0
  cases hx1 : isB s x
  · exact no1 c s p x y z t w bc bs bp hx0 hx1
  cases hx2 : isB s y
  · exact no2 c s p x y z t w bc bs bp hx0 hx1 hx2
  cases hx3 : isB s z
  · exact no3 c s p x y z t w bc bs bp hx0 hx1 hx2 hx3
  obtain ⟨C, S, P, X, Y, rfl, rfl, rfl, rfl, rfl, hx, hy, hv⟩ := ok2_nat (c := c) (s := s) (p := p) (a := x) (b := y) (by unfold ok2; rw [hx0, hx1, hx2]; rfl)
  obtain ⟨Z, rfl, hz⟩ : ∃ Z : Nat, z = Z ∧ Z < S := by
    unfold isB at hx3
    simp only [Bool.and_eq_true, decide_eq_true_iff] at hx3
    exact ⟨z.toNat, by omega, by omega⟩
  by_cases h0 : X = 0
  · exact yes0 C S P X Y Z t w hv hx hy hz h0
  · exact yes1 C S P X Y Z t w hv hx hy hz (by omega)
end Go.Proofs.Ytefnflmabdpnbaa.galoisField
