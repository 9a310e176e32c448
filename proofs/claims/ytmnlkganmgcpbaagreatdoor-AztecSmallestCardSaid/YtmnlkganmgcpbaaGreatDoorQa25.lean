import Derived.Test.YtmnlkganmgcpbaaGreatDoorQa24
import Derived.Test.YtmnlkganmgcpbaaGreatDoorQa23
import Derived.Test.YtmnlkganmgcpbaaGreatDoorQa9
import Derived.Test.YtmnlkganmgcpbaaGreatDoorQa10
import Derived.Test.YtmnlkganmgcpbaaGreatDoorQa17
namespace Go.Proofs.YtmnlkganmgcpbaaGreatDoor
open Go.RowKit
set_option linter.unusedVariables false
set_option linter.unusedSectionVars false
set_option linter.unusedSimpArgs false
set_option maxHeartbeats 1000000 in
theorem words_any (L : Nat) (c : Bool) (w : World) (h : L ≤ 32) : Calls Tryz.prog 44 #[symv L c] w fun e w' => e = .returned (.int .i64 ((wordsN L c : Nat) : Int)) ∧ Below w.heap.size w w' := by
  have CF := sym_cells w L c
  have HRM : Hid (∀ W, Calls Tryz.prog 89 #[symv L c] W fun e w' => e = .returned (.int .i64 ((roomN L c : Nat) : Int)) ∧ Below W.heap.size W w') := fun W => room_any L c W h
  have HSZ : Hid (∀ W, Calls Tryz.prog 33 #[symv L c] W fun e w' => e = .returned (.int .i64 ((sizeN L : Nat) : Int)) ∧ Below W.heap.size W w') := fun W => size_any L c W h
  have HRL := Lib.hid (room_le (c := c) h)
  have HSC := Lib.hid (size_cases L)
  have HW : Hid (wordsN L c = roomN L c / sizeN L) := rfl
  obtain ⟨f0, f1⟩ := CF.out _ (Below.refl _ _)
  generalize roomN L c = R at *
  generalize sizeN L = s at *
  have hs0 : s ≠ 0 := by rcases HSC.out with e | e | e | e <;> omega
  have hs1 : (0 : Int) < (s : Int) := by omega
  have hs2 : ¬ ((s : Int) = 0) := by omega
  have hs3 : 0 < s := by omega
  have hR := HRL.out
  go_enter Tryz.func44, Tryz.ntmps44
  go_wp2
  refine wp_region_W (S := Abv (w.alloc (symB L c))) [(false, 0), (false, 2), (true, 1), (true, 3), (false, 4), (false, 5)] (by kernel_rfl) (by kernel_rfl) (bwDrew (Below.refl _ _)) ?_
  simp only [attachW, List.getElem?_cons_zero, List.getElem?_cons_succ]
  repeat
    refine' wpHX_val rfl (fun W hW => ?_) ?_
    rotate_left
    · have hcf := CF.out W hW; go_simp; rfl
    simp only [Act.put, List.setIfInBounds_toArray, List.set_cons_zero, List.set_cons_succ]
  refine' wpHX_acall rfl (fun W => ?_) ?_
  rotate_left 2
  · go_simp; exact ⟨rfl, rfl⟩
  refine (HRM.out _).mono ?_
  rintro e w1 ⟨rfl, hb1⟩
  have HB1 : Hid (Abv (w.alloc (symB L c)) w1) := bwStep (bwDrew (Below.refl _ _)) hb1
  clear hb1
  refine ⟨_, rfl, HB1.out, ?_⟩
  simp only [Act.put, List.setIfInBounds_toArray, List.set_cons_zero, List.set_cons_succ]
  refine' wpHX_acall rfl (fun W => ?_) ?_
  rotate_left 2
  · go_simp; exact ⟨rfl, rfl⟩
  refine (HSZ.out _).mono ?_
  rintro e w2 ⟨rfl, hb2⟩
  have HB2 : Hid (Abv (w.alloc (symB L c)) w2) := bwStep HB1.out hb2
  clear hb2
  refine ⟨_, rfl, HB2.out, ?_⟩
  simp only [Act.put, List.setIfInBounds_toArray, List.set_cons_zero, List.set_cons_succ]
  have HQ : Hid ((R : Int) / (s : Int) = ((wordsN L c : Nat) : Int)) := by show _ = _; rw [HW.out]; simp
  have hq := HQ.out
  have hqw : IntKind.i64.wrap ((wordsN L c : Nat) : Int) = ((wordsN L c : Nat) : Int) := wr64 _ (by omega) (by have := words_le (c := c) h; omega)
  repeat
    refine' wpHX_val rfl (fun W hW => ?_) ?_
    rotate_left
    · have hcf := CF.out W hW; go_simp; rfl
    simp only [Act.put, List.setIfInBounds_toArray, List.set_cons_zero, List.set_cons_succ]
  refine wpHX_nil ?_
  go_wp2
  go_ret
  exact ⟨rfl, bw1 HB2.out⟩
def RI2 (w : World) (a b : Int) (e : Ending) (w' : World) : Prop := e = .returned (.tuple #[.int .i64 a, .int .i64 b]) ∧ Below w.heap.size w w'
def RI3 (w : World) (a b c : Int) (e : Ending) (w' : World) : Prop := e = .returned (.tuple #[.int .i64 a, .int .i64 b, .int .i64 c]) ∧ Below w.heap.size w w'
def sideR (L : Int) (c : Bool) : Int × Int := if exB L c = true then (((sideN L.toNat c : Nat) : Int), 0) else (0, 14)
def wsR (L : Int) (c : Bool) : Int × Int × Int := if exB L c = true then (((sizeN L.toNat : Nat) : Int), ((wordsN L.toNat c : Nat) : Int), 0) else (0, 0, 14)
theorem Side_any (L : Int) (c : Bool) (w : World) : Calls Tryz.prog 13 #[.int .i64 L, .bool c] w (RI2 w (sideR L c).1 (sideR L c).2) := by
  have CF := sym_cells w L c
  have HEX : Hid (∀ W, Calls Tryz.prog 29 #[symv L c] W fun e w' => e = .returned (.bool (exB L c)) ∧ Below W.heap.size W w') := fun W => exists_any L c W
  cases hx : exB L c with
  | false =>
    have HF : Hid (sideR L c = (0, 14)) := by show _ = _; unfold sideR; rw [hx]; rfl
    rw [hx] at HEX
    clear hx
    go_enter Tryz.func13, Tryz.ntmps13
    go_wp2_with (go_at_call 29; refine (HEX.out _).mono ?_; rintro e w1 ⟨rfl, hb1⟩; have HB1 := Lib.hid hb1; clear hb1; obtain ⟨f0, f1⟩ := CF.out _ HB1.out)
    go_ret2
    rw [HF.out]
    exact ⟨rfl, bw1 HB1.out⟩
  | true =>
    obtain ⟨k, rfl, h1, h2, h3⟩ := exB_nat hx
    have HF : Hid (sideR k c = (((sideN k c : Nat) : Int), 0)) := by show _ = _; unfold sideR; rw [hx]; simp
    have HSD : Hid (∀ W, Calls Tryz.prog 36 #[symv k c] W fun e w' => e = .returned (.int .i64 ((sideN k c : Nat) : Int)) ∧ Below W.heap.size W w') := fun W => side_any k c W h2
    rw [hx] at HEX
    clear hx h3
    go_enter Tryz.func13, Tryz.ntmps13
    go_wp2_with (first
      | (go_at_call 29; refine (HEX.out _).mono ?_; rintro e w1 ⟨rfl, hb1⟩; have HB1 := Lib.hid hb1; clear hb1; obtain ⟨f0, f1⟩ := CF.out _ HB1.out)
      | (go_at_call 36; refine (HSD.out _).mono ?_; rintro e w2 ⟨rfl, hb2⟩; have HB2 := Lib.hid (bwStep HB1.out hb2); clear hb2))
    go_ret2
    rw [HF.out]
    exact ⟨rfl, bw1 HB2.out⟩
set_option maxHeartbeats 1000000 in
theorem WordSize_any (L : Int) (c : Bool) (w : World) : Calls Tryz.prog 16 #[.int .i64 L, .bool c] w (RI3 w (wsR L c).1 (wsR L c).2.1 (wsR L c).2.2) := by
  have CF := sym_cells w L c
  have HEX : Hid (∀ W, Calls Tryz.prog 29 #[symv L c] W fun e w' => e = .returned (.bool (exB L c)) ∧ Below W.heap.size W w') := fun W => exists_any L c W
  cases hx : exB L c with
  | false =>
    have HF : Hid (wsR L c = (0, 0, 14)) := by show _ = _; unfold wsR; rw [hx]; rfl
    rw [hx] at HEX
    clear hx
    go_enter Tryz.func16, Tryz.ntmps16
    go_wp2_with (go_at_call 29; refine (HEX.out _).mono ?_; rintro e w1 ⟨rfl, hb1⟩; have HB1 := Lib.hid hb1; clear hb1; obtain ⟨f0, f1⟩ := CF.out _ HB1.out)
    go_ret3
    rw [HF.out]
    exact ⟨rfl, bw1 HB1.out⟩
  | true =>
    obtain ⟨k, rfl, h1, h2, h3⟩ := exB_nat hx
    have HF : Hid (wsR k c = (((sizeN k : Nat) : Int), ((wordsN k c : Nat) : Int), 0)) := by show _ = _; unfold wsR; rw [hx]; simp
    have HSZ : Hid (∀ W, Calls Tryz.prog 33 #[symv k c] W fun e w' => e = .returned (.int .i64 ((sizeN k : Nat) : Int)) ∧ Below W.heap.size W w') := fun W => size_any k c W h2
    have HWD : Hid (∀ W, Calls Tryz.prog 44 #[symv k c] W fun e w' => e = .returned (.int .i64 ((wordsN k c : Nat) : Int)) ∧ Below W.heap.size W w') := fun W => words_any k c W h2
    rw [hx] at HEX
    clear hx h3
    go_enter Tryz.func16, Tryz.ntmps16
    go_wp2_with (go_at_call 29; refine (HEX.out _).mono ?_; rintro e w1 ⟨rfl, hb1⟩; have HB1 := Lib.hid hb1; clear hb1; obtain ⟨f0, f1⟩ := CF.out _ HB1.out)
    clear f0 f1
    refine wp_region_W (S := Abv (w.alloc (symB k c))) [(false, 0), (false, 2), (true, 1), (true, 3), (false, 4), (false, 5), (false, 6)] (by kernel_rfl) (by kernel_rfl) (bwDrew HB1.out) ?_
    simp only [attachW, List.getElem?_cons_zero, List.getElem?_cons_succ]
    repeat
      refine' wpHX_val rfl (fun W hW => ?_) ?_
      rotate_left
      · have hcf := CF.out W hW; go_simp; rfl
      simp only [Act.put, List.setIfInBounds_toArray, List.set_cons_zero, List.set_cons_succ]
    refine' wpHX_acall rfl (fun W => ?_) ?_
    rotate_left 2
    · go_simp; exact ⟨rfl, rfl⟩
    refine (HSZ.out _).mono ?_
    rintro e w2 ⟨rfl, hb2⟩
    have HB2 : Hid (Abv (w.alloc (symB k c)) w2) := bwStep (bwDrew HB1.out) hb2
    clear hb2
    refine ⟨_, rfl, HB2.out, ?_⟩
    simp only [Act.put, List.setIfInBounds_toArray, List.set_cons_zero, List.set_cons_succ]
    refine' wpHX_acall rfl (fun W => ?_) ?_
    rotate_left 2
    · go_simp; exact ⟨rfl, rfl⟩
    refine (HWD.out _).mono ?_
    rintro e w3 ⟨rfl, hb3⟩
    have HB3 : Hid (Abv (w.alloc (symB k c)) w3) := bwStep HB2.out hb3
    clear hb3
    refine ⟨_, rfl, HB3.out, ?_⟩
    simp only [Act.put, List.setIfInBounds_toArray, List.set_cons_zero, List.set_cons_succ]
    repeat
      refine' wpHX_val rfl (fun W hW => ?_) ?_
      rotate_left
      · have hcf := CF.out W hW; go_simp; rfl
      simp only [Act.put, List.setIfInBounds_toArray, List.set_cons_zero, List.set_cons_succ]
    refine wpHX_nil ?_
    go_wp2
    go_ret3
    rw [HF.out]
    exact ⟨rfl, bw1 HB3.out⟩
theorem right_any (L : Int) (c : Bool) (w : World) : Calls Tryz.prog 47 #[.int .i64 L, .bool c] w fun e w' => e = .returned (.bool (exB L c)) ∧ w' = w := by
  by_cases h1 : 1 ≤ L
  · by_cases h4 : L ≤ 4
    · go_enter Tryz.func47, Tryz.ntmps47
      go_wp2
      all_goals (go_ret; exact ⟨ret_bool (by unfold exB; cases c <;> by_cases h5 : L ≤ 32 <;> simp [h1, h4, h5] <;> omega), rfl⟩)
    · by_cases h5 : L ≤ 32
      · go_enter Tryz.func47, Tryz.ntmps47
        go_wp2
        all_goals (go_ret; exact ⟨ret_bool (by unfold exB; cases c <;> simp [h1, h4, h5] <;> omega), rfl⟩)
      · go_enter Tryz.func47, Tryz.ntmps47
        go_wp2
        all_goals (go_ret; exact ⟨ret_bool (by unfold exB; cases c <;> simp [h1, h4, h5] <;> omega), rfl⟩)
  · go_enter Tryz.func47, Tryz.ntmps47
    go_wp2
    all_goals (go_ret; exact ⟨ret_bool (by unfold exB; simp; omega), rfl⟩)
theorem rbase_any (L : Nat) (c : Bool) (w : World) (h : L ≤ 32) : Calls Tryz.prog 98 #[.int .i64 L, .bool c] w fun e w' => e = .returned (.int .i64 ((baseN L c : Nat) : Int)) ∧ w' = w := by
  cases c with
  | true =>
    go_enter Tryz.func98, Tryz.ntmps98
    go_wp2
    go_ret; exact ⟨ret_int (by unfold baseN; simp), rfl⟩
  | false =>
    go_enter Tryz.func98, Tryz.ntmps98
    go_wp2
    go_ret; exact ⟨ret_int (by unfold baseN; simp), rfl⟩
theorem rside_any (L : Nat) (c : Bool) (w : World) (h : L ≤ 32) : Calls Tryz.prog 48 #[.int .i64 L, .bool c] w fun e w' => e = .returned (.int .i64 ((sideN L c : Nat) : Int)) ∧ w' = w := by
  have HBL := Lib.hid (base_le (c := c) h)
  have HSD : Hid (sideN L c = if c = true then baseN L c else baseN L c + 1 + 2 * ((baseN L c / 2 - 1) / 15)) := rfl
  have HBA : Hid (∀ W, Calls Tryz.prog 98 #[.int .i64 L, .bool c] W fun e w' => e = .returned (.int .i64 ((baseN L c : Nat) : Int)) ∧ w' = W) := fun W => rbase_any L c W h
  generalize baseN L c = B at *
  obtain ⟨b1, b2⟩ := HBL.out
  cases c with
  | true =>
    go_enter Tryz.func48, Tryz.ntmps48
    go_wp2_with (go_at_call 98; refine (HBA.out _).mono ?_; rintro e w1 ⟨rfl, hw1⟩; rw [hw1]; clear hw1)
    go_ret; exact ⟨ret_int (by rw [HSD.out]; simp), rfl⟩
  | false =>
    go_enter Tryz.func48, Tryz.ntmps48
    go_wp2_with (go_at_call 98; refine (HBA.out _).mono ?_; rintro e w1 ⟨rfl, hw1⟩; rw [hw1]; clear hw1)
    go_ret; exact ⟨ret_int (by rw [HSD.out]; simp; omega), rfl⟩
theorem rSide_any (L : Int) (c : Bool) (w : World) : Calls Tryz.prog 17 #[.int .i64 L, .bool c] w (RI2 w (sideR L c).1 (sideR L c).2) := by
  have HEX : Hid (∀ W, Calls Tryz.prog 47 #[.int .i64 L, .bool c] W fun e w' => e = .returned (.bool (exB L c)) ∧ w' = W) := fun W => right_any L c W
  cases hx : exB L c with
  | false =>
    have HF : Hid (sideR L c = (0, 14)) := by show _ = _; unfold sideR; rw [hx]; rfl
    rw [hx] at HEX
    clear hx
    go_enter Tryz.func17, Tryz.ntmps17
    go_wp2_with (go_at_call 47; refine (HEX.out _).mono ?_; rintro e w1 ⟨rfl, hw1⟩; rw [hw1]; clear hw1)
    go_ret2
    rw [HF.out]
    exact ⟨rfl, Below.refl _ _⟩
  | true =>
    obtain ⟨k, rfl, h1, h2, h3⟩ := exB_nat hx
    have HF : Hid (sideR k c = (((sideN k c : Nat) : Int), 0)) := by show _ = _; unfold sideR; rw [hx]; simp
    have HSD : Hid (∀ W, Calls Tryz.prog 48 #[.int .i64 k, .bool c] W fun e w' => e = .returned (.int .i64 ((sideN k c : Nat) : Int)) ∧ w' = W) := fun W => rside_any k c W h2
    rw [hx] at HEX
    clear hx h3
    go_enter Tryz.func17, Tryz.ntmps17
    go_wp2_with (first
      | (go_at_call 47; refine (HEX.out _).mono ?_; rintro e w1 ⟨rfl, hw1⟩; rw [hw1]; clear hw1)
      | (go_at_call 48; refine (HSD.out _).mono ?_; rintro e w1 ⟨rfl, hw1⟩; rw [hw1]; clear hw1))
    go_ret2
    rw [HF.out]
    exact ⟨rfl, Below.refl _ _⟩
theorem rsize_any (L : Nat) (w : World) (h : L ≤ 32) : Calls Tryz.prog 49 #[.int .i64 L] w fun e w' => e = .returned (.int .i64 ((sizeN L : Nat) : Int)) ∧ w' = w := by
  go_enter Tryz.func49, Tryz.ntmps49
  go_wp2
  all_goals (go_ret; exact ⟨ret_int (by unfold sizeN; (repeat' split) <;> first | rfl | omega), rfl⟩)
theorem rtotal_any (L : Nat) (c : Bool) (w : World) (h : L ≤ 32) : Calls Tryz.prog 50 #[.int .i64 L, .bool c] w fun e w' => e = .returned (.int .i64 ((roomN L c : Nat) : Int)) ∧ w' = w := by
  have HR := Lib.hid (room_le (c := c) h)
  have HD : Hid (roomN L c = if c = true then (88 + 16 * L) * L else (112 + 16 * L) * L) := rfl
  generalize roomN L c = R at *
  cases c with
  | true =>
    have hm : (88 + 16 * (L : Int)) * (L : Int) = (R : Int) := by rw [HD.out]; simp
    have hR := HR.out
    go_enter Tryz.func50, Tryz.ntmps50
    go_wp2
    go_ret; exact ⟨rfl, rfl⟩
  | false =>
    have hm : (112 + 16 * (L : Int)) * (L : Int) = (R : Int) := by rw [HD.out]; simp
    have hR := HR.out
    go_enter Tryz.func50, Tryz.ntmps50
    go_wp2
    go_ret; exact ⟨rfl, rfl⟩
set_option maxHeartbeats 1000000 in
theorem rWordSize_any (L : Int) (c : Bool) (w : World) : Calls Tryz.prog 18 #[.int .i64 L, .bool c] w (RI3 w (wsR L c).1 (wsR L c).2.1 (wsR L c).2.2) := by
  have HEX : Hid (∀ W, Calls Tryz.prog 47 #[.int .i64 L, .bool c] W fun e w' => e = .returned (.bool (exB L c)) ∧ w' = W) := fun W => right_any L c W
  cases hx : exB L c with
  | false =>
    have HF : Hid (wsR L c = (0, 0, 14)) := by show _ = _; unfold wsR; rw [hx]; rfl
    rw [hx] at HEX
    clear hx
    go_enter Tryz.func18, Tryz.ntmps18
    go_wp2_with (go_at_call 47; refine (HEX.out _).mono ?_; rintro e w1 ⟨rfl, hw1⟩; rw [hw1]; clear hw1)
    go_ret3
    rw [HF.out]
    exact ⟨rfl, Below.refl _ _⟩
  | true =>
    obtain ⟨k, rfl, h1, h2, h3⟩ := exB_nat hx
    have HF : Hid (wsR k c = (((sizeN k : Nat) : Int), ((wordsN k c : Nat) : Int), 0)) := by show _ = _; unfold wsR; rw [hx]; simp
    have HSZ : Hid (∀ W, Calls Tryz.prog 49 #[.int .i64 k] W fun e w' => e = .returned (.int .i64 ((sizeN k : Nat) : Int)) ∧ w' = W) := fun W => rsize_any k W h2
    have HRM : Hid (∀ W, Calls Tryz.prog 50 #[.int .i64 k, .bool c] W fun e w' => e = .returned (.int .i64 ((roomN k c : Nat) : Int)) ∧ w' = W) := fun W => rtotal_any k c W h2
    have HRL := Lib.hid (room_le (c := c) h2)
    have HSC := Lib.hid (size_cases k)
    have HW : Hid (wordsN k c = roomN k c / sizeN k) := rfl
    generalize roomN k c = R at *
    generalize sizeN k = s at *
    have hs0 : s ≠ 0 := by rcases HSC.out with e | e | e | e <;> omega
    have hs1 : (0 : Int) < (s : Int) := by omega
    have hs2 : ¬ ((s : Int) = 0) := by omega
    have hs3 : 0 < s := by omega
    have hR := HRL.out
    have hq : (R : Int) / (s : Int) = ((wordsN k c : Nat) : Int) := by rw [HW.out]; simp
    have hqw : IntKind.i64.wrap ((wordsN k c : Nat) : Int) = ((wordsN k c : Nat) : Int) := wr64 _ (by omega) (by have := words_le (c := c) h2; omega)
    rw [hx] at HEX
    clear hx h3
    have CF : Hid (∀ W, Abv w W → True) := fun _ _ => trivial
    go_enter Tryz.func18, Tryz.ntmps18
    go_wp2_with (first
      | (go_at_call 47; refine (HEX.out _).mono ?_; rintro e w1 ⟨rfl, hw1⟩; rw [hw1]; clear hw1)
      | (go_at_call 49; refine (HSZ.out _).mono ?_; rintro e w1 ⟨rfl, hw1⟩; rw [hw1]; clear hw1))
    refine wp_region_W (S := Abv w) [(false, 0), (false, 1), (false, 2), (false, 4), (true, 3), (false, 5), (false, 6), (false, 7), (false, 8)] (by kernel_rfl) (by kernel_rfl) (bwDrew (Below.refl _ _)) ?_
    simp only [attachW, List.getElem?_cons_zero, List.getElem?_cons_succ]
    repeat
      refine' wpHX_val rfl (fun W hW => ?_) ?_
      rotate_left
      · have hcf := CF.out W hW; go_simp; rfl
      simp only [Act.put, List.setIfInBounds_toArray, List.set_cons_zero, List.set_cons_succ]
    refine' wpHX_acall rfl (fun W => ?_) ?_
    rotate_left 2
    · go_simp; exact ⟨rfl, rfl⟩
    refine (HRM.out _).mono ?_
    rintro e w2 ⟨rfl, rfl⟩
    refine ⟨_, rfl, (bwDrew (Below.refl _ _)), ?_⟩
    simp only [Act.put, List.setIfInBounds_toArray, List.set_cons_zero, List.set_cons_succ]
    repeat
      refine' wpHX_val rfl (fun W hW => ?_) ?_
      rotate_left
      · have hcf := CF.out W hW; go_simp; rfl
      simp only [Act.put, List.setIfInBounds_toArray, List.set_cons_zero, List.set_cons_succ]
    refine wpHX_nil ?_
    go_wp2
    go_ret3
    rw [HF.out]
    exact ⟨rfl, bwDrew (Below.refl _ _)⟩
end Go.Proofs.YtmnlkganmgcpbaaGreatDoor
namespace Go.Proofs.YtmnlkganmgcpbaaGreatDoor
open Go.RowKit
set_option linter.unusedVariables false
set_option linter.unusedSimpArgs false
def prN (w : Nat) : Nat := if w = 6 then 67 else if w = 8 then 301 else if w = 10 then 1033 else if w = 12 then 4201 else 19
def WOk (w : Nat) : Prop := w = 4 ∨ w = 6 ∨ w = 8 ∨ w = 10 ∨ w = 12
theorem vfz {w : Nat} (h : WOk w) : VF 2 (2 ^ w) (prN w) := by
  rcases h with rfl | rfl | rfl | rfl | rfl
  · exact .inr ⟨4, by omega, by omega, by kernel_rfl, rfl, rfl, by kernel_rfl⟩
  · exact .inr ⟨6, by omega, by omega, by kernel_rfl, rfl, rfl, by kernel_rfl⟩
  · exact .inr ⟨8, by omega, by omega, by kernel_rfl, rfl, rfl, by kernel_rfl⟩
  · exact .inr ⟨10, by omega, by omega, by kernel_rfl, rfl, rfl, by kernel_rfl⟩
  · exact .inr ⟨12, by omega, by omega, by kernel_rfl, rfl, rfl, by kernel_rfl⟩
theorem codz {w par : Nat} (h : WOk w) (h1 : 1 ≤ par) (h2 : par ≤ 2 ^ w - 2) : CodeOk 2 (2 ^ w) (prN w) par 1 := ⟨vfz h, h1, h2, by rcases h with rfl | rfl | rfl | rfl | rfl <;> decide⟩
theorem size_WOk (L : Nat) : WOk (sizeN L) := by rcases size_cases L with h | h | h | h <;> rw [h] <;> simp [WOk]
theorem binz {w : Nat} (h : WOk w) : binV (w : Int) (prN w : Int) = ftup 2 ((2 ^ w : Nat) : Int) (prN w : Int) 0 := by
  have hv := vld_of (vfz h)
  have h12 : (1 : Int) ≤ (w : Int) ∧ (w : Int) ≤ 12 := by rcases h with rfl | rfl | rfl | rfl | rfl <;> omega
  unfold binV binOk
  have hr : rirrB (prN w : Int) (w : Int) = true := by rw [← vld_bin _ _ h12.1 h12.2, Int.toNat_natCast]; exact hv
  rw [Int.toNat_natCast, if_pos (by simpa using ⟨h12, hr⟩)]
theorem words_fit {L : Nat} {c : Bool} (h1 : 1 ≤ L) (h : L ≤ 32) (hc : c = true → L ≤ 4) : wordsN L c ≤ 2 ^ sizeN L - 1 ∧ 17 ≤ wordsN L c := by
  cases c with
  | true =>
    have h4 := hc rfl
    obtain rfl | rfl | rfl | rfl : L = 1 ∨ L = 2 ∨ L = 3 ∨ L = 4 := by omega
    all_goals decide
  | false =>
    have : ∀ k, k < 33 → 1 ≤ k → wordsN k false ≤ 2 ^ sizeN k - 1 ∧ 17 ≤ wordsN k false := by decide
    exact this L (by omega) h1
end Go.Proofs.YtmnlkganmgcpbaaGreatDoor
namespace Go.Proofs.YtmnlkganmgcpbaaGreatDoor
open Go.RowKit
set_option linter.unusedVariables false
set_option linter.unusedSectionVars false
set_option linter.unusedSimpArgs false
theorem belowS {n i : Nat} {w W : World} {v : Value} (h : Below n w W) : Below n w (W.setCell ⟨n, i, none⟩ v) := h.setCell (Nat.le_refl _) _
theorem bin4_any (w : World) : Calls Tryz.prog 110 #[.int .i64 4, .int .i64 19] w fun e w' => e = .returned (.tuple #[.agg #[.int .i64 2, .int .i64 16, .int .i64 19], .int .i64 0]) ∧ Below w.heap.size w w' := by
  have h := Binary_any 4 19 w (by omega)
  have e : binV 4 19 = ftup 2 16 19 0 := binz (w := 4) (by simp [WOk])
  rw [e] at h; exact h
set_option maxHeartbeats 1000000 in
theorem code4_any (par : Nat) (w : World) (h : CodeOk 2 16 19 par 1) : Calls Tryz.prog 61 #[.int .i64 4, .int .i64 par] w fun e w' => e = .returned (.tuple #[codv 2 16 19 par 1, .int .i64 0]) ∧ Below w.heap.size w w' := by
  have HN : Hid (∀ W, Calls Tryz.prog 111 #[.agg #[.int .i64 2, .int .i64 16, .int .i64 19], .int .i64 par, .int .i64 1] W fun e w' => e = .returned (.tuple #[.agg #[.int .i64 2, .int .i64 16, .int .i64 19, .int .i64 par, .int .i64 1], .int .i64 0]) ∧ Below W.heap.size W w') := fun W => qNew_yes 2 16 19 par 1 W h
  have HB : Hid (∀ W, Calls Tryz.prog 110 #[.int .i64 4, .int .i64 19] W fun e w' => e = .returned (.tuple #[.agg #[.int .i64 2, .int .i64 16, .int .i64 19], .int .i64 0]) ∧ Below W.heap.size W w') := fun W => bin4_any W
  obtain ⟨wA, hwA⟩ : ∃ wA, wA = w.alloc (.cells #[.int .i64 0, .int .i64 0, .int .i64 0, .int .i64 0, .int .i64 0] 91) := ⟨_, rfl⟩
  have HWA : Hid (Below w.heap.size w wA) := by show Below _ _ _; rw [hwA]; exact bwA _ _
  have HRA : Hid (RowIs wA w.heap.size #[.int .i64 0, .int .i64 0, .int .i64 0, .int .i64 0, .int .i64 0] 91) := by show RowIs _ _ _ _; rw [hwA]; exact RowIs.new _ _ _ _ (by simp)
  clear h
  go_enter Tryz.func61, Tryz.ntmps61
  go_wp2_with (first
    | (go_at_call 110; refine (HB.out _).mono ?_; rintro e w1 ⟨rfl, hb1⟩; rw [← hwA] at hb1; have HB1 := Lib.hid hb1; clear hb1)
    | (go_at_call 111; refine (HN.out _).mono ?_; rintro e w2 ⟨rfl, hb2⟩; have HB2 := Lib.hid (bwStep (bwAlloc HB1.out _) hb2); clear hb2; have HR2 := Lib.hid (HRA.out.below HB2.out); have c0 : w2.cell? ⟨w.heap.size, 0, none⟩ = some (.int .i64 0) := HR2.out.cell 0 _ rfl; have c1 : w2.cell? ⟨w.heap.size, 1, none⟩ = some (.int .i64 0) := HR2.out.cell 1 _ rfl; have c2 : w2.cell? ⟨w.heap.size, 2, none⟩ = some (.int .i64 0) := HR2.out.cell 2 _ rfl; have c3 : w2.cell? ⟨w.heap.size, 3, none⟩ = some (.int .i64 0) := HR2.out.cell 3 _ rfl; have c4 : w2.cell? ⟨w.heap.size, 4, none⟩ = some (.int .i64 0) := HR2.out.cell 4 _ rfl; have d0 : w2.frozen? ⟨w.heap.size, 0, none⟩ = false := frozen_of_row _ _ _ _ _ HR2.out; have d1 : w2.frozen? ⟨w.heap.size, 1, none⟩ = false := frozen_of_row _ _ _ _ _ HR2.out; have d2 : w2.frozen? ⟨w.heap.size, 2, none⟩ = false := frozen_of_row _ _ _ _ _ HR2.out; have d3 : w2.frozen? ⟨w.heap.size, 3, none⟩ = false := frozen_of_row _ _ _ _ _ HR2.out; have d4 : w2.frozen? ⟨w.heap.size, 4, none⟩ = false := frozen_of_row _ _ _ _ _ HR2.out))
  have HBW : Hid (Below w.heap.size w w2) := bwStep HWA.out HB2.out
  refine bodyPost_ret (v := .tuple #[codv 2 16 19 par 1, .int .i64 0]) (by simp [results, Tryz.results61, go_sem, c0, c1, c2, c3, c4, d0, d1, d2, d3, d4]) rfl ⟨rfl, ?_⟩
  exact belowS (belowS (belowS (belowS (belowS HBW.out))))
theorem bin6_any (w : World) : Calls Tryz.prog 110 #[.int .i64 6, .int .i64 67] w fun e w' => e = .returned (.tuple #[.agg #[.int .i64 2, .int .i64 64, .int .i64 67], .int .i64 0]) ∧ Below w.heap.size w w' := by
  have h := Binary_any 6 67 w (by omega)
  have e : binV 6 67 = ftup 2 64 67 0 := binz (w := 6) (by simp [WOk])
  rw [e] at h; exact h
set_option maxHeartbeats 1000000 in
theorem code6_any (par : Nat) (w : World) (h : CodeOk 2 64 67 par 1) : Calls Tryz.prog 61 #[.int .i64 6, .int .i64 par] w fun e w' => e = .returned (.tuple #[codv 2 64 67 par 1, .int .i64 0]) ∧ Below w.heap.size w w' := by
  have HN : Hid (∀ W, Calls Tryz.prog 111 #[.agg #[.int .i64 2, .int .i64 64, .int .i64 67], .int .i64 par, .int .i64 1] W fun e w' => e = .returned (.tuple #[.agg #[.int .i64 2, .int .i64 64, .int .i64 67, .int .i64 par, .int .i64 1], .int .i64 0]) ∧ Below W.heap.size W w') := fun W => qNew_yes 2 64 67 par 1 W h
  have HB : Hid (∀ W, Calls Tryz.prog 110 #[.int .i64 6, .int .i64 67] W fun e w' => e = .returned (.tuple #[.agg #[.int .i64 2, .int .i64 64, .int .i64 67], .int .i64 0]) ∧ Below W.heap.size W w') := fun W => bin6_any W
  obtain ⟨wA, hwA⟩ : ∃ wA, wA = w.alloc (.cells #[.int .i64 0, .int .i64 0, .int .i64 0, .int .i64 0, .int .i64 0] 91) := ⟨_, rfl⟩
  have HWA : Hid (Below w.heap.size w wA) := by show Below _ _ _; rw [hwA]; exact bwA _ _
  have HRA : Hid (RowIs wA w.heap.size #[.int .i64 0, .int .i64 0, .int .i64 0, .int .i64 0, .int .i64 0] 91) := by show RowIs _ _ _ _; rw [hwA]; exact RowIs.new _ _ _ _ (by simp)
  clear h
  go_enter Tryz.func61, Tryz.ntmps61
  go_wp2_with (first
    | (go_at_call 110; refine (HB.out _).mono ?_; rintro e w1 ⟨rfl, hb1⟩; rw [← hwA] at hb1; have HB1 := Lib.hid hb1; clear hb1)
    | (go_at_call 111; refine (HN.out _).mono ?_; rintro e w2 ⟨rfl, hb2⟩; have HB2 := Lib.hid (bwStep (bwAlloc HB1.out _) hb2); clear hb2; have HR2 := Lib.hid (HRA.out.below HB2.out); have c0 : w2.cell? ⟨w.heap.size, 0, none⟩ = some (.int .i64 0) := HR2.out.cell 0 _ rfl; have c1 : w2.cell? ⟨w.heap.size, 1, none⟩ = some (.int .i64 0) := HR2.out.cell 1 _ rfl; have c2 : w2.cell? ⟨w.heap.size, 2, none⟩ = some (.int .i64 0) := HR2.out.cell 2 _ rfl; have c3 : w2.cell? ⟨w.heap.size, 3, none⟩ = some (.int .i64 0) := HR2.out.cell 3 _ rfl; have c4 : w2.cell? ⟨w.heap.size, 4, none⟩ = some (.int .i64 0) := HR2.out.cell 4 _ rfl; have d0 : w2.frozen? ⟨w.heap.size, 0, none⟩ = false := frozen_of_row _ _ _ _ _ HR2.out; have d1 : w2.frozen? ⟨w.heap.size, 1, none⟩ = false := frozen_of_row _ _ _ _ _ HR2.out; have d2 : w2.frozen? ⟨w.heap.size, 2, none⟩ = false := frozen_of_row _ _ _ _ _ HR2.out; have d3 : w2.frozen? ⟨w.heap.size, 3, none⟩ = false := frozen_of_row _ _ _ _ _ HR2.out; have d4 : w2.frozen? ⟨w.heap.size, 4, none⟩ = false := frozen_of_row _ _ _ _ _ HR2.out))
  have HBW : Hid (Below w.heap.size w w2) := bwStep HWA.out HB2.out
  refine bodyPost_ret (v := .tuple #[codv 2 64 67 par 1, .int .i64 0]) (by simp [results, Tryz.results61, go_sem, c0, c1, c2, c3, c4, d0, d1, d2, d3, d4]) rfl ⟨rfl, ?_⟩
  exact belowS (belowS (belowS (belowS (belowS HBW.out))))
theorem bin8_any (w : World) : Calls Tryz.prog 110 #[.int .i64 8, .int .i64 301] w fun e w' => e = .returned (.tuple #[.agg #[.int .i64 2, .int .i64 256, .int .i64 301], .int .i64 0]) ∧ Below w.heap.size w w' := by
  have h := Binary_any 8 301 w (by omega)
  have e : binV 8 301 = ftup 2 256 301 0 := binz (w := 8) (by simp [WOk])
  rw [e] at h; exact h
set_option maxHeartbeats 1000000 in
theorem code8_any (par : Nat) (w : World) (h : CodeOk 2 256 301 par 1) : Calls Tryz.prog 61 #[.int .i64 8, .int .i64 par] w fun e w' => e = .returned (.tuple #[codv 2 256 301 par 1, .int .i64 0]) ∧ Below w.heap.size w w' := by
  have HN : Hid (∀ W, Calls Tryz.prog 111 #[.agg #[.int .i64 2, .int .i64 256, .int .i64 301], .int .i64 par, .int .i64 1] W fun e w' => e = .returned (.tuple #[.agg #[.int .i64 2, .int .i64 256, .int .i64 301, .int .i64 par, .int .i64 1], .int .i64 0]) ∧ Below W.heap.size W w') := fun W => qNew_yes 2 256 301 par 1 W h
  have HB : Hid (∀ W, Calls Tryz.prog 110 #[.int .i64 8, .int .i64 301] W fun e w' => e = .returned (.tuple #[.agg #[.int .i64 2, .int .i64 256, .int .i64 301], .int .i64 0]) ∧ Below W.heap.size W w') := fun W => bin8_any W
  obtain ⟨wA, hwA⟩ : ∃ wA, wA = w.alloc (.cells #[.int .i64 0, .int .i64 0, .int .i64 0, .int .i64 0, .int .i64 0] 91) := ⟨_, rfl⟩
  have HWA : Hid (Below w.heap.size w wA) := by show Below _ _ _; rw [hwA]; exact bwA _ _
  have HRA : Hid (RowIs wA w.heap.size #[.int .i64 0, .int .i64 0, .int .i64 0, .int .i64 0, .int .i64 0] 91) := by show RowIs _ _ _ _; rw [hwA]; exact RowIs.new _ _ _ _ (by simp)
  clear h
  go_enter Tryz.func61, Tryz.ntmps61
  go_wp2_with (first
    | (go_at_call 110; refine (HB.out _).mono ?_; rintro e w1 ⟨rfl, hb1⟩; rw [← hwA] at hb1; have HB1 := Lib.hid hb1; clear hb1)
    | (go_at_call 111; refine (HN.out _).mono ?_; rintro e w2 ⟨rfl, hb2⟩; have HB2 := Lib.hid (bwStep (bwAlloc HB1.out _) hb2); clear hb2; have HR2 := Lib.hid (HRA.out.below HB2.out); have c0 : w2.cell? ⟨w.heap.size, 0, none⟩ = some (.int .i64 0) := HR2.out.cell 0 _ rfl; have c1 : w2.cell? ⟨w.heap.size, 1, none⟩ = some (.int .i64 0) := HR2.out.cell 1 _ rfl; have c2 : w2.cell? ⟨w.heap.size, 2, none⟩ = some (.int .i64 0) := HR2.out.cell 2 _ rfl; have c3 : w2.cell? ⟨w.heap.size, 3, none⟩ = some (.int .i64 0) := HR2.out.cell 3 _ rfl; have c4 : w2.cell? ⟨w.heap.size, 4, none⟩ = some (.int .i64 0) := HR2.out.cell 4 _ rfl; have d0 : w2.frozen? ⟨w.heap.size, 0, none⟩ = false := frozen_of_row _ _ _ _ _ HR2.out; have d1 : w2.frozen? ⟨w.heap.size, 1, none⟩ = false := frozen_of_row _ _ _ _ _ HR2.out; have d2 : w2.frozen? ⟨w.heap.size, 2, none⟩ = false := frozen_of_row _ _ _ _ _ HR2.out; have d3 : w2.frozen? ⟨w.heap.size, 3, none⟩ = false := frozen_of_row _ _ _ _ _ HR2.out; have d4 : w2.frozen? ⟨w.heap.size, 4, none⟩ = false := frozen_of_row _ _ _ _ _ HR2.out))
  have HBW : Hid (Below w.heap.size w w2) := bwStep HWA.out HB2.out
  refine bodyPost_ret (v := .tuple #[codv 2 256 301 par 1, .int .i64 0]) (by simp [results, Tryz.results61, go_sem, c0, c1, c2, c3, c4, d0, d1, d2, d3, d4]) rfl ⟨rfl, ?_⟩
  exact belowS (belowS (belowS (belowS (belowS HBW.out))))
theorem bin10_any (w : World) : Calls Tryz.prog 110 #[.int .i64 10, .int .i64 1033] w fun e w' => e = .returned (.tuple #[.agg #[.int .i64 2, .int .i64 1024, .int .i64 1033], .int .i64 0]) ∧ Below w.heap.size w w' := by
  have h := Binary_any 10 1033 w (by omega)
  have e : binV 10 1033 = ftup 2 1024 1033 0 := binz (w := 10) (by simp [WOk])
  rw [e] at h; exact h
set_option maxHeartbeats 1000000 in
theorem code10_any (par : Nat) (w : World) (h : CodeOk 2 1024 1033 par 1) : Calls Tryz.prog 61 #[.int .i64 10, .int .i64 par] w fun e w' => e = .returned (.tuple #[codv 2 1024 1033 par 1, .int .i64 0]) ∧ Below w.heap.size w w' := by
  have HN : Hid (∀ W, Calls Tryz.prog 111 #[.agg #[.int .i64 2, .int .i64 1024, .int .i64 1033], .int .i64 par, .int .i64 1] W fun e w' => e = .returned (.tuple #[.agg #[.int .i64 2, .int .i64 1024, .int .i64 1033, .int .i64 par, .int .i64 1], .int .i64 0]) ∧ Below W.heap.size W w') := fun W => qNew_yes 2 1024 1033 par 1 W h
  have HB : Hid (∀ W, Calls Tryz.prog 110 #[.int .i64 10, .int .i64 1033] W fun e w' => e = .returned (.tuple #[.agg #[.int .i64 2, .int .i64 1024, .int .i64 1033], .int .i64 0]) ∧ Below W.heap.size W w') := fun W => bin10_any W
  obtain ⟨wA, hwA⟩ : ∃ wA, wA = w.alloc (.cells #[.int .i64 0, .int .i64 0, .int .i64 0, .int .i64 0, .int .i64 0] 91) := ⟨_, rfl⟩
  have HWA : Hid (Below w.heap.size w wA) := by show Below _ _ _; rw [hwA]; exact bwA _ _
  have HRA : Hid (RowIs wA w.heap.size #[.int .i64 0, .int .i64 0, .int .i64 0, .int .i64 0, .int .i64 0] 91) := by show RowIs _ _ _ _; rw [hwA]; exact RowIs.new _ _ _ _ (by simp)
  clear h
  go_enter Tryz.func61, Tryz.ntmps61
  go_wp2_with (first
    | (go_at_call 110; refine (HB.out _).mono ?_; rintro e w1 ⟨rfl, hb1⟩; rw [← hwA] at hb1; have HB1 := Lib.hid hb1; clear hb1)
    | (go_at_call 111; refine (HN.out _).mono ?_; rintro e w2 ⟨rfl, hb2⟩; have HB2 := Lib.hid (bwStep (bwAlloc HB1.out _) hb2); clear hb2; have HR2 := Lib.hid (HRA.out.below HB2.out); have c0 : w2.cell? ⟨w.heap.size, 0, none⟩ = some (.int .i64 0) := HR2.out.cell 0 _ rfl; have c1 : w2.cell? ⟨w.heap.size, 1, none⟩ = some (.int .i64 0) := HR2.out.cell 1 _ rfl; have c2 : w2.cell? ⟨w.heap.size, 2, none⟩ = some (.int .i64 0) := HR2.out.cell 2 _ rfl; have c3 : w2.cell? ⟨w.heap.size, 3, none⟩ = some (.int .i64 0) := HR2.out.cell 3 _ rfl; have c4 : w2.cell? ⟨w.heap.size, 4, none⟩ = some (.int .i64 0) := HR2.out.cell 4 _ rfl; have d0 : w2.frozen? ⟨w.heap.size, 0, none⟩ = false := frozen_of_row _ _ _ _ _ HR2.out; have d1 : w2.frozen? ⟨w.heap.size, 1, none⟩ = false := frozen_of_row _ _ _ _ _ HR2.out; have d2 : w2.frozen? ⟨w.heap.size, 2, none⟩ = false := frozen_of_row _ _ _ _ _ HR2.out; have d3 : w2.frozen? ⟨w.heap.size, 3, none⟩ = false := frozen_of_row _ _ _ _ _ HR2.out; have d4 : w2.frozen? ⟨w.heap.size, 4, none⟩ = false := frozen_of_row _ _ _ _ _ HR2.out))
  have HBW : Hid (Below w.heap.size w w2) := bwStep HWA.out HB2.out
  refine bodyPost_ret (v := .tuple #[codv 2 1024 1033 par 1, .int .i64 0]) (by simp [results, Tryz.results61, go_sem, c0, c1, c2, c3, c4, d0, d1, d2, d3, d4]) rfl ⟨rfl, ?_⟩
  exact belowS (belowS (belowS (belowS (belowS HBW.out))))
theorem bin12_any (w : World) : Calls Tryz.prog 110 #[.int .i64 12, .int .i64 4201] w fun e w' => e = .returned (.tuple #[.agg #[.int .i64 2, .int .i64 4096, .int .i64 4201], .int .i64 0]) ∧ Below w.heap.size w w' := by
  have h := Binary_any 12 4201 w (by omega)
  have e : binV 12 4201 = ftup 2 4096 4201 0 := binz (w := 12) (by simp [WOk])
  rw [e] at h; exact h
set_option maxHeartbeats 1000000 in
theorem code12_any (par : Nat) (w : World) (h : CodeOk 2 4096 4201 par 1) : Calls Tryz.prog 61 #[.int .i64 12, .int .i64 par] w fun e w' => e = .returned (.tuple #[codv 2 4096 4201 par 1, .int .i64 0]) ∧ Below w.heap.size w w' := by
  have HN : Hid (∀ W, Calls Tryz.prog 111 #[.agg #[.int .i64 2, .int .i64 4096, .int .i64 4201], .int .i64 par, .int .i64 1] W fun e w' => e = .returned (.tuple #[.agg #[.int .i64 2, .int .i64 4096, .int .i64 4201, .int .i64 par, .int .i64 1], .int .i64 0]) ∧ Below W.heap.size W w') := fun W => qNew_yes 2 4096 4201 par 1 W h
  have HB : Hid (∀ W, Calls Tryz.prog 110 #[.int .i64 12, .int .i64 4201] W fun e w' => e = .returned (.tuple #[.agg #[.int .i64 2, .int .i64 4096, .int .i64 4201], .int .i64 0]) ∧ Below W.heap.size W w') := fun W => bin12_any W
  obtain ⟨wA, hwA⟩ : ∃ wA, wA = w.alloc (.cells #[.int .i64 0, .int .i64 0, .int .i64 0, .int .i64 0, .int .i64 0] 91) := ⟨_, rfl⟩
  have HWA : Hid (Below w.heap.size w wA) := by show Below _ _ _; rw [hwA]; exact bwA _ _
  have HRA : Hid (RowIs wA w.heap.size #[.int .i64 0, .int .i64 0, .int .i64 0, .int .i64 0, .int .i64 0] 91) := by show RowIs _ _ _ _; rw [hwA]; exact RowIs.new _ _ _ _ (by simp)
  clear h
  go_enter Tryz.func61, Tryz.ntmps61
  go_wp2_with (first
    | (go_at_call 110; refine (HB.out _).mono ?_; rintro e w1 ⟨rfl, hb1⟩; rw [← hwA] at hb1; have HB1 := Lib.hid hb1; clear hb1)
    | (go_at_call 111; refine (HN.out _).mono ?_; rintro e w2 ⟨rfl, hb2⟩; have HB2 := Lib.hid (bwStep (bwAlloc HB1.out _) hb2); clear hb2; have HR2 := Lib.hid (HRA.out.below HB2.out); have c0 : w2.cell? ⟨w.heap.size, 0, none⟩ = some (.int .i64 0) := HR2.out.cell 0 _ rfl; have c1 : w2.cell? ⟨w.heap.size, 1, none⟩ = some (.int .i64 0) := HR2.out.cell 1 _ rfl; have c2 : w2.cell? ⟨w.heap.size, 2, none⟩ = some (.int .i64 0) := HR2.out.cell 2 _ rfl; have c3 : w2.cell? ⟨w.heap.size, 3, none⟩ = some (.int .i64 0) := HR2.out.cell 3 _ rfl; have c4 : w2.cell? ⟨w.heap.size, 4, none⟩ = some (.int .i64 0) := HR2.out.cell 4 _ rfl; have d0 : w2.frozen? ⟨w.heap.size, 0, none⟩ = false := frozen_of_row _ _ _ _ _ HR2.out; have d1 : w2.frozen? ⟨w.heap.size, 1, none⟩ = false := frozen_of_row _ _ _ _ _ HR2.out; have d2 : w2.frozen? ⟨w.heap.size, 2, none⟩ = false := frozen_of_row _ _ _ _ _ HR2.out; have d3 : w2.frozen? ⟨w.heap.size, 3, none⟩ = false := frozen_of_row _ _ _ _ _ HR2.out; have d4 : w2.frozen? ⟨w.heap.size, 4, none⟩ = false := frozen_of_row _ _ _ _ _ HR2.out))
  have HBW : Hid (Below w.heap.size w w2) := bwStep HWA.out HB2.out
  refine bodyPost_ret (v := .tuple #[codv 2 4096 4201 par 1, .int .i64 0]) (by simp [results, Tryz.results61, go_sem, c0, c1, c2, c3, c4, d0, d1, d2, d3, d4]) rfl ⟨rfl, ?_⟩
  exact belowS (belowS (belowS (belowS (belowS HBW.out))))
theorem code_any (w par : Nat) (W : World) (hw : WOk w) (h1 : 1 ≤ par) (h2 : par ≤ 2 ^ w - 2) : Calls Tryz.prog 61 #[.int .i64 w, .int .i64 par] W fun e w' => e = .returned (.tuple #[codv 2 (2 ^ w) (prN w) par 1, .int .i64 0]) ∧ Below W.heap.size W w' := by
  have h := codz hw h1 h2
  rcases hw with rfl | rfl | rfl | rfl | rfl
  · exact code4_any par W h
  · exact code6_any par W h
  · exact code8_any par W h
  · exact code10_any par W h
  · exact code12_any par W h
def mostN (c : Bool) : Nat := if c = true then 64 else 2048
def lbN (c : Bool) : Nat := if c = true then 2 else 5
def dbN (c : Bool) : Nat := if c = true then 6 else 11
def mpN (c : Bool) : Nat := if c = true then 5 else 6
theorem mostData_any (c : Bool) (w : World) : Calls Tryz.prog 57 #[.bool c] w fun e w' => e = .returned (.int .i64 ((mostN c : Nat) : Int)) ∧ w' = w := by
  cases c
  all_goals
    go_enter Tryz.func57, Tryz.ntmps57
    go_wp2
    go_ret; exact ⟨rfl, rfl⟩
theorem modeSizes_any (c : Bool) (w : World) : Calls Tryz.prog 58 #[.bool c] w fun e w' => e = .returned (.tuple #[.int .i64 ((lbN c : Nat) : Int), .int .i64 ((dbN c : Nat) : Int), .int .i64 ((mpN c : Nat) : Int)]) ∧ w' = w := by
  cases c
  all_goals
    go_enter Tryz.func58, Tryz.ntmps58
    go_wp2
    go_ret3; exact ⟨rfl, rfl⟩
end Go.Proofs.YtmnlkganmgcpbaaGreatDoor
