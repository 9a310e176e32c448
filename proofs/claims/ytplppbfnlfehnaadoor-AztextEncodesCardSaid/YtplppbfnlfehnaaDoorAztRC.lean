import Derived.Test.YtplppbfnlfehnaaDoorAztRB
namespace Go.Proofs.YtplppbfnlfehnaaDoor
open Go.RowKit Go.WideMaps Go.Maps
set_option linter.unusedVariables false
/-! the reference's tables -/
def latF (m v : Nat) : Int := if kindF m v = 2 then ((modeF m v : Nat) : Int) else -1
def shfF (m v : Nat) : Int := if kindF m v = 3 then ((modeF m v : Nat) : Int) else -1
def bytF (m v : Nat) : ByteArray := if kindF m v = 1 then charF m v else ByteArray.empty
theorem RWidth_any (m : Nat) (w : World) : Calls Tryd.prog 42 #[.int .i64 (m : Int)] w fun e w' => e = .returned (.int .i64 ((widthN m : Nat) : Int)) ∧ w' = w := by
  by_cases h : m = 4
  · subst h
    go_enter Tryd.func42, Tryd.ntmps42
    go_wp2
    go_ret
    exact ⟨rfl, rfl⟩
  · have z : ((m : Int) == 4) = false := by rw [beq_eq_false_iff_ne]; omega
    have HW : Hid (widthN m = 5) := by show _ = _; unfold widthN; rw [if_neg h]
    clear h
    go_enter Tryd.func42, Tryd.ntmps42
    go_wp2
    go_ret
    rw [HW.out]
    exact ⟨rfl, rfl⟩
theorem RLatch_else0 : ∀ v, v < 32 → v ≠ 28 → v ≠ 29 → v ≠ 30 → latF 0 v = -1 := of_decide_eq_true (by kernel_rfl)
theorem RLatch_at0_28 : latF 0 28 = 1 := by kernel_rfl
theorem RLatch_at0_29 : latF 0 29 = 2 := by kernel_rfl
theorem RLatch_at0_30 : latF 0 30 = 4 := by kernel_rfl
theorem RLatch_0 (v : Nat) (hv : v < 32) (w : World) : Calls Tryd.prog 45 #[.int .i64 0, .int .i64 (v : Int)] w fun e w' => e = .returned (.int .i64 (latF 0 v)) ∧ w' = w := by
  by_cases h28 : v = 28
  · subst h28
    go_enter Tryd.func45, Tryd.ntmps45
    go_wp2
    go_ret
    rw [RLatch_at0_28]
    exact ⟨rfl, rfl⟩
  by_cases h29 : v = 29
  · subst h29
    go_enter Tryd.func45, Tryd.ntmps45
    go_wp2
    go_ret
    rw [RLatch_at0_29]
    exact ⟨rfl, rfl⟩
  by_cases h30 : v = 30
  · subst h30
    go_enter Tryd.func45, Tryd.ntmps45
    go_wp2
    go_ret
    rw [RLatch_at0_30]
    exact ⟨rfl, rfl⟩
  have HE := Lib.hid (RLatch_else0 v hv h28 h29 h30)
  have z28 : ((v : Int) == 28) = false := by rw [beq_eq_false_iff_ne]; omega
  have z29 : ((v : Int) == 29) = false := by rw [beq_eq_false_iff_ne]; omega
  have z30 : ((v : Int) == 30) = false := by rw [beq_eq_false_iff_ne]; omega
  clear h28 h29 h30
  go_enter Tryd.func45, Tryd.ntmps45
  go_wp2
  go_ret
  rw [HE.out]
  exact ⟨rfl, rfl⟩
theorem RLatch_else1 : ∀ v, v < 32 → v ≠ 29 → v ≠ 30 → latF 1 v = -1 := of_decide_eq_true (by kernel_rfl)
theorem RLatch_at1_29 : latF 1 29 = 2 := by kernel_rfl
theorem RLatch_at1_30 : latF 1 30 = 4 := by kernel_rfl
theorem RLatch_1 (v : Nat) (hv : v < 32) (w : World) : Calls Tryd.prog 45 #[.int .i64 1, .int .i64 (v : Int)] w fun e w' => e = .returned (.int .i64 (latF 1 v)) ∧ w' = w := by
  by_cases h29 : v = 29
  · subst h29
    go_enter Tryd.func45, Tryd.ntmps45
    go_wp2
    go_ret
    rw [RLatch_at1_29]
    exact ⟨rfl, rfl⟩
  by_cases h30 : v = 30
  · subst h30
    go_enter Tryd.func45, Tryd.ntmps45
    go_wp2
    go_ret
    rw [RLatch_at1_30]
    exact ⟨rfl, rfl⟩
  have HE := Lib.hid (RLatch_else1 v hv h29 h30)
  have z29 : ((v : Int) == 29) = false := by rw [beq_eq_false_iff_ne]; omega
  have z30 : ((v : Int) == 30) = false := by rw [beq_eq_false_iff_ne]; omega
  clear h29 h30
  go_enter Tryd.func45, Tryd.ntmps45
  go_wp2
  go_ret
  rw [HE.out]
  exact ⟨rfl, rfl⟩
theorem RLatch_else2 : ∀ v, v < 32 → v ≠ 28 → v ≠ 29 → v ≠ 30 → latF 2 v = -1 := of_decide_eq_true (by kernel_rfl)
theorem RLatch_at2_28 : latF 2 28 = 1 := by kernel_rfl
theorem RLatch_at2_29 : latF 2 29 = 0 := by kernel_rfl
theorem RLatch_at2_30 : latF 2 30 = 3 := by kernel_rfl
theorem RLatch_2 (v : Nat) (hv : v < 32) (w : World) : Calls Tryd.prog 45 #[.int .i64 2, .int .i64 (v : Int)] w fun e w' => e = .returned (.int .i64 (latF 2 v)) ∧ w' = w := by
  by_cases h28 : v = 28
  · subst h28
    go_enter Tryd.func45, Tryd.ntmps45
    go_wp2
    go_ret
    rw [RLatch_at2_28]
    exact ⟨rfl, rfl⟩
  by_cases h29 : v = 29
  · subst h29
    go_enter Tryd.func45, Tryd.ntmps45
    go_wp2
    go_ret
    rw [RLatch_at2_29]
    exact ⟨rfl, rfl⟩
  by_cases h30 : v = 30
  · subst h30
    go_enter Tryd.func45, Tryd.ntmps45
    go_wp2
    go_ret
    rw [RLatch_at2_30]
    exact ⟨rfl, rfl⟩
  have HE := Lib.hid (RLatch_else2 v hv h28 h29 h30)
  have z28 : ((v : Int) == 28) = false := by rw [beq_eq_false_iff_ne]; omega
  have z29 : ((v : Int) == 29) = false := by rw [beq_eq_false_iff_ne]; omega
  have z30 : ((v : Int) == 30) = false := by rw [beq_eq_false_iff_ne]; omega
  clear h28 h29 h30
  go_enter Tryd.func45, Tryd.ntmps45
  go_wp2
  go_ret
  rw [HE.out]
  exact ⟨rfl, rfl⟩
theorem RLatch_else3 : ∀ v, v < 32 → v ≠ 31 → latF 3 v = -1 := of_decide_eq_true (by kernel_rfl)
theorem RLatch_at3_31 : latF 3 31 = 0 := by kernel_rfl
theorem RLatch_3 (v : Nat) (hv : v < 32) (w : World) : Calls Tryd.prog 45 #[.int .i64 3, .int .i64 (v : Int)] w fun e w' => e = .returned (.int .i64 (latF 3 v)) ∧ w' = w := by
  by_cases h31 : v = 31
  · subst h31
    go_enter Tryd.func45, Tryd.ntmps45
    go_wp2
    go_ret
    rw [RLatch_at3_31]
    exact ⟨rfl, rfl⟩
  have HE := Lib.hid (RLatch_else3 v hv h31)
  have z31 : ((v : Int) == 31) = false := by rw [beq_eq_false_iff_ne]; omega
  clear h31
  go_enter Tryd.func45, Tryd.ntmps45
  go_wp2
  go_ret
  rw [HE.out]
  exact ⟨rfl, rfl⟩
theorem RLatch_else4 : ∀ v, v < 32 → v ≠ 14 → latF 4 v = -1 := of_decide_eq_true (by kernel_rfl)
theorem RLatch_at4_14 : latF 4 14 = 0 := by kernel_rfl
theorem RLatch_4 (v : Nat) (hv : v < 32) (w : World) : Calls Tryd.prog 45 #[.int .i64 4, .int .i64 (v : Int)] w fun e w' => e = .returned (.int .i64 (latF 4 v)) ∧ w' = w := by
  by_cases h14 : v = 14
  · subst h14
    go_enter Tryd.func45, Tryd.ntmps45
    go_wp2
    go_ret
    rw [RLatch_at4_14]
    exact ⟨rfl, rfl⟩
  have HE := Lib.hid (RLatch_else4 v hv h14)
  have z14 : ((v : Int) == 14) = false := by rw [beq_eq_false_iff_ne]; omega
  clear h14
  go_enter Tryd.func45, Tryd.ntmps45
  go_wp2
  go_ret
  rw [HE.out]
  exact ⟨rfl, rfl⟩
theorem RLatch_any (m v : Nat) (hm : m < 5) (hv : v < 32) (w : World) : Calls Tryd.prog 45 #[.int .i64 (m : Int), .int .i64 (v : Int)] w fun e w' => e = .returned (.int .i64 (latF m v)) ∧ w' = w := by
  have h5 : m = 0 ∨ m = 1 ∨ m = 2 ∨ m = 3 ∨ m = 4 := by omega
  rcases h5 with rfl | rfl | rfl | rfl | rfl
  · exact RLatch_0 v hv w
  · exact RLatch_1 v hv w
  · exact RLatch_2 v hv w
  · exact RLatch_3 v hv w
  · exact RLatch_4 v hv w
theorem RShift_else0 : ∀ v, v < 32 → v ≠ 0 → shfF 0 v = -1 := of_decide_eq_true (by kernel_rfl)
theorem RShift_at0_0 : shfF 0 0 = 3 := by kernel_rfl
theorem RShift_0 (v : Nat) (hv : v < 32) (w : World) : Calls Tryd.prog 46 #[.int .i64 0, .int .i64 (v : Int)] w fun e w' => e = .returned (.int .i64 (shfF 0 v)) ∧ w' = w := by
  by_cases h0 : v = 0
  · subst h0
    go_enter Tryd.func46, Tryd.ntmps46
    go_wp2
    go_ret
    rw [RShift_at0_0]
    exact ⟨rfl, rfl⟩
  have HE := Lib.hid (RShift_else0 v hv h0)
  have z0 : ((v : Int) == 0) = false := by rw [beq_eq_false_iff_ne]; omega
  clear h0
  go_enter Tryd.func46, Tryd.ntmps46
  go_wp2
  go_ret
  rw [HE.out]
  exact ⟨rfl, rfl⟩
theorem RShift_else1 : ∀ v, v < 32 → v ≠ 0 → v ≠ 28 → shfF 1 v = -1 := of_decide_eq_true (by kernel_rfl)
theorem RShift_at1_0 : shfF 1 0 = 3 := by kernel_rfl
theorem RShift_at1_28 : shfF 1 28 = 0 := by kernel_rfl
theorem RShift_1 (v : Nat) (hv : v < 32) (w : World) : Calls Tryd.prog 46 #[.int .i64 1, .int .i64 (v : Int)] w fun e w' => e = .returned (.int .i64 (shfF 1 v)) ∧ w' = w := by
  by_cases h0 : v = 0
  · subst h0
    go_enter Tryd.func46, Tryd.ntmps46
    go_wp2
    go_ret
    rw [RShift_at1_0]
    exact ⟨rfl, rfl⟩
  by_cases h28 : v = 28
  · subst h28
    go_enter Tryd.func46, Tryd.ntmps46
    go_wp2
    go_ret
    rw [RShift_at1_28]
    exact ⟨rfl, rfl⟩
  have HE := Lib.hid (RShift_else1 v hv h0 h28)
  have z0 : ((v : Int) == 0) = false := by rw [beq_eq_false_iff_ne]; omega
  have z28 : ((v : Int) == 28) = false := by rw [beq_eq_false_iff_ne]; omega
  clear h0 h28
  go_enter Tryd.func46, Tryd.ntmps46
  go_wp2
  go_ret
  rw [HE.out]
  exact ⟨rfl, rfl⟩
theorem RShift_else2 : ∀ v, v < 32 → v ≠ 0 → shfF 2 v = -1 := of_decide_eq_true (by kernel_rfl)
theorem RShift_at2_0 : shfF 2 0 = 3 := by kernel_rfl
theorem RShift_2 (v : Nat) (hv : v < 32) (w : World) : Calls Tryd.prog 46 #[.int .i64 2, .int .i64 (v : Int)] w fun e w' => e = .returned (.int .i64 (shfF 2 v)) ∧ w' = w := by
  by_cases h0 : v = 0
  · subst h0
    go_enter Tryd.func46, Tryd.ntmps46
    go_wp2
    go_ret
    rw [RShift_at2_0]
    exact ⟨rfl, rfl⟩
  have HE := Lib.hid (RShift_else2 v hv h0)
  have z0 : ((v : Int) == 0) = false := by rw [beq_eq_false_iff_ne]; omega
  clear h0
  go_enter Tryd.func46, Tryd.ntmps46
  go_wp2
  go_ret
  rw [HE.out]
  exact ⟨rfl, rfl⟩
theorem RShift_else3 : ∀ v, v < 32 → shfF 3 v = -1 := of_decide_eq_true (by kernel_rfl)
theorem RShift_3 (v : Nat) (hv : v < 32) (w : World) : Calls Tryd.prog 46 #[.int .i64 3, .int .i64 (v : Int)] w fun e w' => e = .returned (.int .i64 (shfF 3 v)) ∧ w' = w := by
  have HE := Lib.hid (RShift_else3 v hv)
  go_enter Tryd.func46, Tryd.ntmps46
  go_wp2
  go_ret
  rw [HE.out]
  exact ⟨rfl, rfl⟩
theorem RShift_else4 : ∀ v, v < 32 → v ≠ 0 → v ≠ 15 → shfF 4 v = -1 := of_decide_eq_true (by kernel_rfl)
theorem RShift_at4_0 : shfF 4 0 = 3 := by kernel_rfl
theorem RShift_at4_15 : shfF 4 15 = 0 := by kernel_rfl
theorem RShift_4 (v : Nat) (hv : v < 32) (w : World) : Calls Tryd.prog 46 #[.int .i64 4, .int .i64 (v : Int)] w fun e w' => e = .returned (.int .i64 (shfF 4 v)) ∧ w' = w := by
  by_cases h0 : v = 0
  · subst h0
    go_enter Tryd.func46, Tryd.ntmps46
    go_wp2
    go_ret
    rw [RShift_at4_0]
    exact ⟨rfl, rfl⟩
  by_cases h15 : v = 15
  · subst h15
    go_enter Tryd.func46, Tryd.ntmps46
    go_wp2
    go_ret
    rw [RShift_at4_15]
    exact ⟨rfl, rfl⟩
  have HE := Lib.hid (RShift_else4 v hv h0 h15)
  have z0 : ((v : Int) == 0) = false := by rw [beq_eq_false_iff_ne]; omega
  have z15 : ((v : Int) == 15) = false := by rw [beq_eq_false_iff_ne]; omega
  clear h0 h15
  go_enter Tryd.func46, Tryd.ntmps46
  go_wp2
  go_ret
  rw [HE.out]
  exact ⟨rfl, rfl⟩
theorem RShift_any (m v : Nat) (hm : m < 5) (hv : v < 32) (w : World) : Calls Tryd.prog 46 #[.int .i64 (m : Int), .int .i64 (v : Int)] w fun e w' => e = .returned (.int .i64 (shfF m v)) ∧ w' = w := by
  have h5 : m = 0 ∨ m = 1 ∨ m = 2 ∨ m = 3 ∨ m = 4 := by omega
  rcases h5 with rfl | rfl | rfl | rfl | rfl
  · exact RShift_0 v hv w
  · exact RShift_1 v hv w
  · exact RShift_2 v hv w
  · exact RShift_3 v hv w
  · exact RShift_4 v hv w
theorem RBytes_mid0 : ∀ v, v < 32 → 2 ≤ v → v ≤ 27 → tx0.extract (v - 2) (v - 1) = bytF 0 v := of_decide_eq_true (by kernel_rfl)
theorem RBytes_end0 : ∀ v, v < 32 → 27 < v → bytF 0 v = ByteArray.empty := of_decide_eq_true (by kernel_rfl)
theorem RBytes_zero0 : bytF 0 0 = ByteArray.empty := by kernel_rfl
theorem RBytes_one0 : bytF 0 1 = ⟨#[32]⟩ := by kernel_rfl
set_option maxRecDepth 100000 in
theorem RBytes_0 (v : Nat) (hv : v < 32) (w : World) : Calls Tryd.prog 43 #[.int .i64 0, .int .i64 (v : Int)] w fun e w' => e = .returned (.string (bytF 0 v)) ∧ Below w.heap.size w w' := by
  by_cases h0 : v = 0
  · subst h0
    go_enter Tryd.func43, Tryd.ntmps43
    go_wp2
    go_ret
    rw [RBytes_zero0]
    exact ⟨rfl, Below.refl _ _⟩
  by_cases h1 : v = 1
  · subst h1
    go_enter Tryd.func43, Tryd.ntmps43
    go_wp2
    go_ret
    rw [RBytes_one0]
    exact ⟨rfl, Below.refl _ _⟩
  have z0 : ((v : Int) == 0) = false := by rw [beq_eq_false_iff_ne]; omega
  have z1 : ((v : Int) == 1) = false := by rw [beq_eq_false_iff_ne]; omega
  by_cases hl : 27 < v
  · have HE := Lib.hid (RBytes_end0 v hv hl)
    have d1 : decide ((27 : Int) < (v : Int)) = true := by simp; omega
    clear h0 h1
    go_enter Tryd.func43, Tryd.ntmps43
    go_wp2
    go_ret
    rw [HE.out]
    exact ⟨rfl, Below.refl _ _⟩
  have d1 : decide ((27 : Int) < (v : Int)) = false := by simp; omega
  have HM := RBytes_mid0 v hv (by omega) (by omega)
  obtain ⟨k, rfl⟩ : ∃ k, v = k + 2 := ⟨v - 2, by omega⟩
  rw [Nat.add_sub_cancel] at HM
  have HE := Lib.hid HM
  have y0 : ((k : Int) + 2 == 0) = false := by rw [beq_eq_false_iff_ne]; omega
  have y1 : ((k : Int) + 2 == 1) = false := by rw [beq_eq_false_iff_ne]; omega
  have y2 : decide ((27 : Int) < (k : Int) + 2) = false := by simp; omega
  have hk : k < 26 := by omega
  clear z0 z1 d1 h0 h1 HM hl
  go_enter Tryd.func43, Tryd.ntmps43
  go_wp2
  go_ret
  rw [← HE.out]
  exact ⟨rfl, Below.refl _ _⟩
theorem RBytes_mid1 : ∀ v, v < 32 → 2 ≤ v → v ≤ 27 → tx1.extract (v - 2) (v - 1) = bytF 1 v := of_decide_eq_true (by kernel_rfl)
theorem RBytes_end1 : ∀ v, v < 32 → 27 < v → bytF 1 v = ByteArray.empty := of_decide_eq_true (by kernel_rfl)
theorem RBytes_zero1 : bytF 1 0 = ByteArray.empty := by kernel_rfl
theorem RBytes_one1 : bytF 1 1 = ⟨#[32]⟩ := by kernel_rfl
set_option maxRecDepth 100000 in
theorem RBytes_1 (v : Nat) (hv : v < 32) (w : World) : Calls Tryd.prog 43 #[.int .i64 1, .int .i64 (v : Int)] w fun e w' => e = .returned (.string (bytF 1 v)) ∧ Below w.heap.size w w' := by
  by_cases h0 : v = 0
  · subst h0
    go_enter Tryd.func43, Tryd.ntmps43
    go_wp2
    go_ret
    rw [RBytes_zero1]
    exact ⟨rfl, Below.refl _ _⟩
  by_cases h1 : v = 1
  · subst h1
    go_enter Tryd.func43, Tryd.ntmps43
    go_wp2
    go_ret
    rw [RBytes_one1]
    exact ⟨rfl, Below.refl _ _⟩
  have z0 : ((v : Int) == 0) = false := by rw [beq_eq_false_iff_ne]; omega
  have z1 : ((v : Int) == 1) = false := by rw [beq_eq_false_iff_ne]; omega
  by_cases hl : 27 < v
  · have HE := Lib.hid (RBytes_end1 v hv hl)
    have d1 : decide ((27 : Int) < (v : Int)) = true := by simp; omega
    clear h0 h1
    go_enter Tryd.func43, Tryd.ntmps43
    go_wp2
    go_ret
    rw [HE.out]
    exact ⟨rfl, Below.refl _ _⟩
  have d1 : decide ((27 : Int) < (v : Int)) = false := by simp; omega
  have HM := RBytes_mid1 v hv (by omega) (by omega)
  obtain ⟨k, rfl⟩ : ∃ k, v = k + 2 := ⟨v - 2, by omega⟩
  rw [Nat.add_sub_cancel] at HM
  have HE := Lib.hid HM
  have y0 : ((k : Int) + 2 == 0) = false := by rw [beq_eq_false_iff_ne]; omega
  have y1 : ((k : Int) + 2 == 1) = false := by rw [beq_eq_false_iff_ne]; omega
  have y2 : decide ((27 : Int) < (k : Int) + 2) = false := by simp; omega
  have hk : k < 26 := by omega
  clear z0 z1 d1 h0 h1 HM hl
  go_enter Tryd.func43, Tryd.ntmps43
  go_wp2
  go_ret
  rw [← HE.out]
  exact ⟨rfl, Below.refl _ _⟩
theorem RBytes_mid2 : ∀ v, v < 32 → 2 ≤ v → v ≤ 27 → tx2.extract (v - 2) (v - 1) = bytF 2 v := of_decide_eq_true (by kernel_rfl)
theorem RBytes_end2 : ∀ v, v < 32 → 27 < v → bytF 2 v = ByteArray.empty := of_decide_eq_true (by kernel_rfl)
theorem RBytes_zero2 : bytF 2 0 = ByteArray.empty := by kernel_rfl
theorem RBytes_one2 : bytF 2 1 = ⟨#[32]⟩ := by kernel_rfl
set_option maxRecDepth 100000 in
theorem RBytes_2 (v : Nat) (hv : v < 32) (w : World) : Calls Tryd.prog 43 #[.int .i64 2, .int .i64 (v : Int)] w fun e w' => e = .returned (.string (bytF 2 v)) ∧ Below w.heap.size w w' := by
  by_cases h0 : v = 0
  · subst h0
    go_enter Tryd.func43, Tryd.ntmps43
    go_wp2
    go_ret
    rw [RBytes_zero2]
    exact ⟨rfl, Below.refl _ _⟩
  by_cases h1 : v = 1
  · subst h1
    go_enter Tryd.func43, Tryd.ntmps43
    go_wp2
    go_ret
    rw [RBytes_one2]
    exact ⟨rfl, Below.refl _ _⟩
  have z0 : ((v : Int) == 0) = false := by rw [beq_eq_false_iff_ne]; omega
  have z1 : ((v : Int) == 1) = false := by rw [beq_eq_false_iff_ne]; omega
  by_cases hl : 27 < v
  · have HE := Lib.hid (RBytes_end2 v hv hl)
    have d1 : decide ((27 : Int) < (v : Int)) = true := by simp; omega
    clear h0 h1
    go_enter Tryd.func43, Tryd.ntmps43
    go_wp2
    go_ret
    rw [HE.out]
    exact ⟨rfl, Below.refl _ _⟩
  have d1 : decide ((27 : Int) < (v : Int)) = false := by simp; omega
  have HM := RBytes_mid2 v hv (by omega) (by omega)
  obtain ⟨k, rfl⟩ : ∃ k, v = k + 2 := ⟨v - 2, by omega⟩
  rw [Nat.add_sub_cancel] at HM
  have HE := Lib.hid HM
  have y0 : ((k : Int) + 2 == 0) = false := by rw [beq_eq_false_iff_ne]; omega
  have y1 : ((k : Int) + 2 == 1) = false := by rw [beq_eq_false_iff_ne]; omega
  have y2 : decide ((27 : Int) < (k : Int) + 2) = false := by simp; omega
  have hk : k < 26 := by omega
  clear z0 z1 d1 h0 h1 HM hl
  go_enter Tryd.func43, Tryd.ntmps43
  go_wp2
  go_ret
  rw [← HE.out]
  exact ⟨rfl, Below.refl _ _⟩
theorem RBytes_mid3 : ∀ v, v < 32 → 6 ≤ v → v ≤ 30 → tx3.extract (v - 6) (v - 5) = bytF 3 v := of_decide_eq_true (by kernel_rfl)
theorem RBytes_end3 : ∀ v, v < 32 → 30 < v → bytF 3 v = ByteArray.empty := of_decide_eq_true (by kernel_rfl)
theorem RBytes_zero3 : bytF 3 0 = ByteArray.empty := by kernel_rfl
theorem RBytes_one3 : bytF 3 1 = ⟨#[13]⟩ := by kernel_rfl
theorem RBytes_two2 : bytF 3 2 = ⟨#[13, 10]⟩ := by kernel_rfl
theorem RBytes_two3 : bytF 3 3 = ⟨#[46, 32]⟩ := by kernel_rfl
theorem RBytes_two4 : bytF 3 4 = ⟨#[44, 32]⟩ := by kernel_rfl
theorem RBytes_two5 : bytF 3 5 = ⟨#[58, 32]⟩ := by kernel_rfl
set_option maxRecDepth 100000 in
theorem RBytes_3 (v : Nat) (hv : v < 32) (w : World) : Calls Tryd.prog 43 #[.int .i64 3, .int .i64 (v : Int)] w fun e w' => e = .returned (.string (bytF 3 v)) ∧ Below w.heap.size w w' := by
  by_cases h0 : v = 0
  · subst h0
    go_enter Tryd.func43, Tryd.ntmps43
    go_wp2
    go_ret
    rw [RBytes_zero3]
    exact ⟨rfl, Below.refl _ _⟩
  by_cases h1 : v = 1
  · subst h1
    go_enter Tryd.func43, Tryd.ntmps43
    go_wp2
    go_ret
    rw [RBytes_one3]
    exact ⟨rfl, Below.refl _ _⟩
  have z0 : ((v : Int) == 0) = false := by rw [beq_eq_false_iff_ne]; omega
  have z1 : ((v : Int) == 1) = false := by rw [beq_eq_false_iff_ne]; omega
  by_cases hl : 30 < v
  · have HE := Lib.hid (RBytes_end3 v hv hl)
    have d1 : decide ((30 : Int) < (v : Int)) = true := by simp; omega
    clear h0 h1
    go_enter Tryd.func43, Tryd.ntmps43
    go_wp2
    go_ret
    rw [HE.out]
    exact ⟨rfl, Below.refl _ _⟩
  have d1 : decide ((30 : Int) < (v : Int)) = false := by simp; omega
  by_cases h2 : v = 2
  · subst h2
    go_enter Tryd.func43, Tryd.ntmps43
    go_wp2
    go_ret
    rw [RBytes_two2]
    exact ⟨rfl, bwA _ _⟩
  by_cases h3 : v = 3
  · subst h3
    go_enter Tryd.func43, Tryd.ntmps43
    go_wp2
    go_ret
    rw [RBytes_two3]
    exact ⟨rfl, bwA _ _⟩
  by_cases h4 : v = 4
  · subst h4
    go_enter Tryd.func43, Tryd.ntmps43
    go_wp2
    go_ret
    rw [RBytes_two4]
    exact ⟨rfl, bwA _ _⟩
  by_cases h5 : v = 5
  · subst h5
    go_enter Tryd.func43, Tryd.ntmps43
    go_wp2
    go_ret
    rw [RBytes_two5]
    exact ⟨rfl, bwA _ _⟩
  have d6 : decide ((v : Int) < 6) = false := by simp; omega
  have HM := RBytes_mid3 v hv (by omega) (by omega)
  obtain ⟨k, rfl⟩ : ∃ k, v = k + 6 := ⟨v - 6, by omega⟩
  rw [Nat.add_sub_cancel] at HM
  have HE := Lib.hid HM
  have y0 : ((k : Int) + 6 == 0) = false := by rw [beq_eq_false_iff_ne]; omega
  have y1 : ((k : Int) + 6 == 1) = false := by rw [beq_eq_false_iff_ne]; omega
  have y2 : decide ((30 : Int) < (k : Int) + 6) = false := by simp; omega
  have hk : k < 25 := by omega
  clear z0 z1 d1 h0 h1 HM hl d6 h2 h3 h4 h5
  have y6 : decide ((k : Int) + 6 < 6) = false := by simp; omega
  go_enter Tryd.func43, Tryd.ntmps43
  go_wp2
  go_ret
  rw [← HE.out]
  exact ⟨rfl, Below.refl _ _⟩
theorem RBytes_mid4 : ∀ v, v < 32 → 2 ≤ v → v ≤ 13 → tx4.extract (v - 2) (v - 1) = bytF 4 v := of_decide_eq_true (by kernel_rfl)
theorem RBytes_end4 : ∀ v, v < 32 → 13 < v → bytF 4 v = ByteArray.empty := of_decide_eq_true (by kernel_rfl)
theorem RBytes_zero4 : bytF 4 0 = ByteArray.empty := by kernel_rfl
theorem RBytes_one4 : bytF 4 1 = ⟨#[32]⟩ := by kernel_rfl
set_option maxRecDepth 100000 in
theorem RBytes_4 (v : Nat) (hv : v < 32) (w : World) : Calls Tryd.prog 43 #[.int .i64 4, .int .i64 (v : Int)] w fun e w' => e = .returned (.string (bytF 4 v)) ∧ Below w.heap.size w w' := by
  by_cases h0 : v = 0
  · subst h0
    go_enter Tryd.func43, Tryd.ntmps43
    go_wp2
    go_ret
    rw [RBytes_zero4]
    exact ⟨rfl, Below.refl _ _⟩
  by_cases h1 : v = 1
  · subst h1
    go_enter Tryd.func43, Tryd.ntmps43
    go_wp2
    go_ret
    rw [RBytes_one4]
    exact ⟨rfl, Below.refl _ _⟩
  have z0 : ((v : Int) == 0) = false := by rw [beq_eq_false_iff_ne]; omega
  have z1 : ((v : Int) == 1) = false := by rw [beq_eq_false_iff_ne]; omega
  by_cases hl : 13 < v
  · have HE := Lib.hid (RBytes_end4 v hv hl)
    have d1 : decide ((13 : Int) < (v : Int)) = true := by simp; omega
    clear h0 h1
    go_enter Tryd.func43, Tryd.ntmps43
    go_wp2
    go_ret
    rw [HE.out]
    exact ⟨rfl, Below.refl _ _⟩
  have d1 : decide ((13 : Int) < (v : Int)) = false := by simp; omega
  have HM := RBytes_mid4 v hv (by omega) (by omega)
  obtain ⟨k, rfl⟩ : ∃ k, v = k + 2 := ⟨v - 2, by omega⟩
  rw [Nat.add_sub_cancel] at HM
  have HE := Lib.hid HM
  have y0 : ((k : Int) + 2 == 0) = false := by rw [beq_eq_false_iff_ne]; omega
  have y1 : ((k : Int) + 2 == 1) = false := by rw [beq_eq_false_iff_ne]; omega
  have y2 : decide ((13 : Int) < (k : Int) + 2) = false := by simp; omega
  have hk : k < 12 := by omega
  clear z0 z1 d1 h0 h1 HM hl
  go_enter Tryd.func43, Tryd.ntmps43
  go_wp2
  go_ret
  rw [← HE.out]
  exact ⟨rfl, Below.refl _ _⟩
theorem RBytes_any (m v : Nat) (hm : m < 5) (hv : v < 32) (w : World) : Calls Tryd.prog 43 #[.int .i64 (m : Int), .int .i64 (v : Int)] w fun e w' => e = .returned (.string (bytF m v)) ∧ Below w.heap.size w w' := by
  have h5 : m = 0 ∨ m = 1 ∨ m = 2 ∨ m = 3 ∨ m = 4 := by omega
  rcases h5 with rfl | rfl | rfl | rfl | rfl
  · exact RBytes_0 v hv w
  · exact RBytes_1 v hv w
  · exact RBytes_2 v hv w
  · exact RBytes_3 v hv w
  · exact RBytes_4 v hv w
end Go.Proofs.YtplppbfnlfehnaaDoor
