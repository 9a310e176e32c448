import Derived.Test.YtefnflmabdpnbaaKeep
namespace Go.Proofs.Ytefnflmabdpnbaa
open Go.RowKit
set_option linter.unusedVariables false
/-! the chapter's examples -/
theorem vf7 : VF 7 7 0 := .inl ⟨rfl, rfl, by omega, by omega, by decide⟩
theorem av1 : binV 8 285 = ftup 2 256 285 0 := by
  have : binOk 8 285 = true := by decide +kernel
  unfold binV; rw [this]; rfl
theorem av2 : primeV 7 = ftup 7 7 0 0 := by
  have : primeB (7 : Int).toNat = true := by decide
  unfold primeV; rw [this]; rfl
theorem av3 : mulR 2 256 285 128 2 = (29, 0) := by decide +kernel
theorem ord7 : OrdN 7 0 3 6 := by
  refine ⟨by omega, by decide, fun m h1 h2 => ?_⟩
  have : m = 1 ∨ m = 2 ∨ m = 3 ∨ m = 4 ∨ m = 5 := by omega
  rcases this with rfl | rfl | rfl | rfl | rfl <;> decide
theorem gen7 : genF 7 0 = 3 := by
  refine genN_unique (genF_spec vf7) ⟨by omega, by omega, ord7, fun x h1 h2 ho => ?_⟩
  have : x = 1 ∨ x = 2 := by omega
  rcases this with rfl | rfl
  · exact ho.2.2 1 (by omega) (by omega) (by decide)
  · exact ho.2.2 3 (by omega) (by omega) (by decide)
theorem av4 : genR 7 7 0 = (3, 0) := by
  unfold genR
  have e : vldB 7 7 0 = true := by decide
  rw [e]
  show (((genF 7 0 : Nat) : Int), (0 : Int)) = (3, 0)
  rw [gen7]; rfl
theorem log7 : logF 7 0 6 = 3 := by
  refine logF_of vf7 (by omega) (by omega) (by omega) ?_
  rw [gen7]; decide
theorem av5 : logR 7 7 0 6 = (3, 0) := by
  unfold logR
  have e : ok1 7 7 0 6 = true := by decide
  rw [e]
  show (((logF 7 0 6 : Nat) : Int), (0 : Int)) = (3, 0)
  rw [log7]; rfl
theorem av6 : addR 7 7 0 5 6 = (4, 0) := by decide
theorem av7 : divR 7 7 0 1 3 = (5, 0) := by decide
theorem av8 : vldB 7 7 0 = true := by decide
set_option maxRecDepth 100000 in
set_option maxHeartbeats 4000000 in
theorem alive_any (w : World) : Calls Try.prog 16 #[] w fun e w' => e = .returned (.bool true) ∧ Below w.heap.size w w' := by
  go_enter Try.func16, Try.ntmps16
  go_wp2_with fail
  refine (Binary_any 8 285 _ (by omega)).mono ?_
  rintro e w1 ⟨rfl, hb1⟩
  rw [av1]
  have HB1 : Hid (Below w.heap.size w w1) := bwStep ((Below.refl _ _)) hb1
  clear hb1 
  go_wp2_with fail
  refine (Prime_any 7 _).mono ?_
  rintro e w2 ⟨rfl, hb2⟩
  rw [av2]
  have Kf2 : Hid (CellsAt w2 (w1.heap.size) [.int .i64 2, .int .i64 256, .int .i64 285]) := CellsAt.below (CellsAt.new _ #[.int .i64 2, .int .i64 256, .int .i64 285] 23 _ (by simp)) hb2
  have HB2 : Hid (Below w.heap.size w w2) := bwStep (bwAlloc (HB1.out) _) hb2
  clear hb2 
  have yf2 := Kf2.out.1
  have qf2_0 : w2.cell? ⟨w1.heap.size, 0, none⟩ = some (.int .i64 2) := Kf2.out.2 0 (by simp)
  have qf2_1 : w2.cell? ⟨w1.heap.size, 1, none⟩ = some (.int .i64 256) := Kf2.out.2 1 (by simp)
  have qf2_2 : w2.cell? ⟨w1.heap.size, 2, none⟩ = some (.int .i64 285) := Kf2.out.2 2 (by simp)
  go_wp2_with fail
  refine (Mul_any 2 256 285 128 2 _ (by omega) (by omega)).mono ?_
  rintro e w3 ⟨rfl, hb3⟩
  rw [av3]
  have Kf3 : Hid (CellsAt w3 (w1.heap.size) [.int .i64 2, .int .i64 256, .int .i64 285]) := CellsAt.below (CellsAt.alloc (Kf2.out) _) hb3
  have Kg3 : Hid (CellsAt w3 (w2.heap.size) [.int .i64 7, .int .i64 7, .int .i64 0]) := CellsAt.below (CellsAt.new _ #[.int .i64 7, .int .i64 7, .int .i64 0] 23 _ (by simp)) hb3
  have HB3 : Hid (Below w.heap.size w w3) := bwStep (bwAlloc (HB2.out) _) hb3
  clear hb3 yf2 qf2_0 qf2_1 qf2_2
  have yf3 := Kf3.out.1
  have qf3_0 : w3.cell? ⟨w1.heap.size, 0, none⟩ = some (.int .i64 2) := Kf3.out.2 0 (by simp)
  have qf3_1 : w3.cell? ⟨w1.heap.size, 1, none⟩ = some (.int .i64 256) := Kf3.out.2 1 (by simp)
  have qf3_2 : w3.cell? ⟨w1.heap.size, 2, none⟩ = some (.int .i64 285) := Kf3.out.2 2 (by simp)
  have yg3 := Kg3.out.1
  have qg3_0 : w3.cell? ⟨w2.heap.size, 0, none⟩ = some (.int .i64 7) := Kg3.out.2 0 (by simp)
  have qg3_1 : w3.cell? ⟨w2.heap.size, 1, none⟩ = some (.int .i64 7) := Kg3.out.2 1 (by simp)
  have qg3_2 : w3.cell? ⟨w2.heap.size, 2, none⟩ = some (.int .i64 0) := Kg3.out.2 2 (by simp)
  go_wp2_with fail
  refine (Generator_any 7 7 0 _ (by omega) (by omega)).mono ?_
  rintro e w4 ⟨rfl, hb4⟩
  rw [av4]
  have Kf4 : Hid (CellsAt w4 (w1.heap.size) [.int .i64 2, .int .i64 256, .int .i64 285]) := CellsAt.below (Kf3.out) hb4
  have Kg4 : Hid (CellsAt w4 (w2.heap.size) [.int .i64 7, .int .i64 7, .int .i64 0]) := CellsAt.below (Kg3.out) hb4
  have HB4 : Hid (Below w.heap.size w w4) := bwStep (HB3.out) hb4
  clear hb4 yf3 qf3_0 qf3_1 qf3_2 yg3 qg3_0 qg3_1 qg3_2
  have yf4 := Kf4.out.1
  have qf4_0 : w4.cell? ⟨w1.heap.size, 0, none⟩ = some (.int .i64 2) := Kf4.out.2 0 (by simp)
  have qf4_1 : w4.cell? ⟨w1.heap.size, 1, none⟩ = some (.int .i64 256) := Kf4.out.2 1 (by simp)
  have qf4_2 : w4.cell? ⟨w1.heap.size, 2, none⟩ = some (.int .i64 285) := Kf4.out.2 2 (by simp)
  have yg4 := Kg4.out.1
  have qg4_0 : w4.cell? ⟨w2.heap.size, 0, none⟩ = some (.int .i64 7) := Kg4.out.2 0 (by simp)
  have qg4_1 : w4.cell? ⟨w2.heap.size, 1, none⟩ = some (.int .i64 7) := Kg4.out.2 1 (by simp)
  have qg4_2 : w4.cell? ⟨w2.heap.size, 2, none⟩ = some (.int .i64 0) := Kg4.out.2 2 (by simp)
  go_wp2_with fail
  refine (Log_any 7 7 0 6 _ (by omega) (by omega)).mono ?_
  rintro e w5 ⟨rfl, hb5⟩
  rw [av5]
  have Kf5 : Hid (CellsAt w5 (w1.heap.size) [.int .i64 2, .int .i64 256, .int .i64 285]) := CellsAt.below (Kf4.out) hb5
  have Kg5 : Hid (CellsAt w5 (w2.heap.size) [.int .i64 7, .int .i64 7, .int .i64 0]) := CellsAt.below (Kg4.out) hb5
  have HB5 : Hid (Below w.heap.size w w5) := bwStep (HB4.out) hb5
  clear hb5 yf4 qf4_0 qf4_1 qf4_2 yg4 qg4_0 qg4_1 qg4_2
  have yf5 := Kf5.out.1
  have qf5_0 : w5.cell? ⟨w1.heap.size, 0, none⟩ = some (.int .i64 2) := Kf5.out.2 0 (by simp)
  have qf5_1 : w5.cell? ⟨w1.heap.size, 1, none⟩ = some (.int .i64 256) := Kf5.out.2 1 (by simp)
  have qf5_2 : w5.cell? ⟨w1.heap.size, 2, none⟩ = some (.int .i64 285) := Kf5.out.2 2 (by simp)
  have yg5 := Kg5.out.1
  have qg5_0 : w5.cell? ⟨w2.heap.size, 0, none⟩ = some (.int .i64 7) := Kg5.out.2 0 (by simp)
  have qg5_1 : w5.cell? ⟨w2.heap.size, 1, none⟩ = some (.int .i64 7) := Kg5.out.2 1 (by simp)
  have qg5_2 : w5.cell? ⟨w2.heap.size, 2, none⟩ = some (.int .i64 0) := Kg5.out.2 2 (by simp)
  go_wp2_with fail
  refine (Add_any 7 7 0 5 6 _ (by omega) (by omega)).mono ?_
  rintro e w6 ⟨rfl, hb6⟩
  rw [av6]
  have Kf6 : Hid (CellsAt w6 (w1.heap.size) [.int .i64 2, .int .i64 256, .int .i64 285]) := CellsAt.below (Kf5.out) hb6
  have Kg6 : Hid (CellsAt w6 (w2.heap.size) [.int .i64 7, .int .i64 7, .int .i64 0]) := CellsAt.below (Kg5.out) hb6
  have HB6 : Hid (Below w.heap.size w w6) := bwStep (HB5.out) hb6
  clear hb6 yf5 qf5_0 qf5_1 qf5_2 yg5 qg5_0 qg5_1 qg5_2
  have yf6 := Kf6.out.1
  have qf6_0 : w6.cell? ⟨w1.heap.size, 0, none⟩ = some (.int .i64 2) := Kf6.out.2 0 (by simp)
  have qf6_1 : w6.cell? ⟨w1.heap.size, 1, none⟩ = some (.int .i64 256) := Kf6.out.2 1 (by simp)
  have qf6_2 : w6.cell? ⟨w1.heap.size, 2, none⟩ = some (.int .i64 285) := Kf6.out.2 2 (by simp)
  have yg6 := Kg6.out.1
  have qg6_0 : w6.cell? ⟨w2.heap.size, 0, none⟩ = some (.int .i64 7) := Kg6.out.2 0 (by simp)
  have qg6_1 : w6.cell? ⟨w2.heap.size, 1, none⟩ = some (.int .i64 7) := Kg6.out.2 1 (by simp)
  have qg6_2 : w6.cell? ⟨w2.heap.size, 2, none⟩ = some (.int .i64 0) := Kg6.out.2 2 (by simp)
  go_wp2_with fail
  refine (Div_any 7 7 0 1 3 _ (by omega) (by omega)).mono ?_
  rintro e w7 ⟨rfl, hb7⟩
  rw [av7]
  have Kf7 : Hid (CellsAt w7 (w1.heap.size) [.int .i64 2, .int .i64 256, .int .i64 285]) := CellsAt.below (Kf6.out) hb7
  have Kg7 : Hid (CellsAt w7 (w2.heap.size) [.int .i64 7, .int .i64 7, .int .i64 0]) := CellsAt.below (Kg6.out) hb7
  have HB7 : Hid (Below w.heap.size w w7) := bwStep (HB6.out) hb7
  clear hb7 yf6 qf6_0 qf6_1 qf6_2 yg6 qg6_0 qg6_1 qg6_2
  have yf7 := Kf7.out.1
  have qf7_0 : w7.cell? ⟨w1.heap.size, 0, none⟩ = some (.int .i64 2) := Kf7.out.2 0 (by simp)
  have qf7_1 : w7.cell? ⟨w1.heap.size, 1, none⟩ = some (.int .i64 256) := Kf7.out.2 1 (by simp)
  have qf7_2 : w7.cell? ⟨w1.heap.size, 2, none⟩ = some (.int .i64 285) := Kf7.out.2 2 (by simp)
  have yg7 := Kg7.out.1
  have qg7_0 : w7.cell? ⟨w2.heap.size, 0, none⟩ = some (.int .i64 7) := Kg7.out.2 0 (by simp)
  have qg7_1 : w7.cell? ⟨w2.heap.size, 1, none⟩ = some (.int .i64 7) := Kg7.out.2 1 (by simp)
  have qg7_2 : w7.cell? ⟨w2.heap.size, 2, none⟩ = some (.int .i64 0) := Kg7.out.2 2 (by simp)
  go_wp2_with fail
  refine (valid_any 7 7 0 _ (by omega)).mono ?_
  rintro e w8 ⟨rfl, hb8⟩
  rw [av8]
  have Kf8 : Hid (CellsAt w8 (w1.heap.size) [.int .i64 2, .int .i64 256, .int .i64 285]) := CellsAt.below (Kf7.out) hb8
  have Kg8 : Hid (CellsAt w8 (w2.heap.size) [.int .i64 7, .int .i64 7, .int .i64 0]) := CellsAt.below (Kg7.out) hb8
  have HB8 : Hid (Below w.heap.size w w8) := bwStep (HB7.out) hb8
  clear hb8 yf7 qf7_0 qf7_1 qf7_2 yg7 qg7_0 qg7_1 qg7_2
  have yf8 := Kf8.out.1
  have qf8_0 : w8.cell? ⟨w1.heap.size, 0, none⟩ = some (.int .i64 2) := Kf8.out.2 0 (by simp)
  have qf8_1 : w8.cell? ⟨w1.heap.size, 1, none⟩ = some (.int .i64 256) := Kf8.out.2 1 (by simp)
  have qf8_2 : w8.cell? ⟨w1.heap.size, 2, none⟩ = some (.int .i64 285) := Kf8.out.2 2 (by simp)
  have yg8 := Kg8.out.1
  have qg8_0 : w8.cell? ⟨w2.heap.size, 0, none⟩ = some (.int .i64 7) := Kg8.out.2 0 (by simp)
  have qg8_1 : w8.cell? ⟨w2.heap.size, 1, none⟩ = some (.int .i64 7) := Kg8.out.2 1 (by simp)
  have qg8_2 : w8.cell? ⟨w2.heap.size, 2, none⟩ = some (.int .i64 0) := Kg8.out.2 2 (by simp)
  go_wp2_with fail
  go_ret
  exact ⟨rfl, HB8.out⟩
end Go.Proofs.Ytefnflmabdpnbaa
