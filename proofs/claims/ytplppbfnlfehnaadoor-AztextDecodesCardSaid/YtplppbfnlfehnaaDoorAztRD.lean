import Derived.Test.YtplppbfnlfehnaaDoorAztRC
namespace Go.Proofs.YtplppbfnlfehnaaDoor
open Go.RowKit Go.WideMaps Go.Maps
set_option linter.unusedVariables false
/-! the reference's reading: Take, over -/
theorem takeRes_yes {b : List Bool} {at_ m : Nat} (h : at_ + m ≤ b.length) : takeRes (b.drop at_) 0 m = (((numF b at_ m : Nat) : Int), 0) := by
  unfold takeRes
  rw [if_neg (by rw [List.length_drop]; omega), numF_drop, Nat.add_zero]
theorem takeRes_no {b : List Bool} {at_ m : Nat} (h : b.length < at_ + m) (ha : at_ ≤ b.length) : takeRes (b.drop at_) 0 m = (0, 10) := by
  unfold takeRes
  rw [if_pos (by rw [List.length_drop]; omega)]
set_option maxRecDepth 100000 in
set_option maxHeartbeats 4000000 in
theorem RTake_ref (A : Option Addr) (n c : Nat) (b : List Bool) (at_ m : Nat) (w : World) (hb : SR vB false w A n c b) (ha : at_ ≤ n) (hm : m ≤ 40) (hn : n ≤ 1048576) :
    Calls Tryd.prog 52 #[.slice A n c, .int .i64 (at_ : Int), .int .i64 (m : Int)] w fun e w' => e = .returned (.tuple #[.int .i64 (takeRes (b.drop at_) 0 m).1, .int .i64 (takeRes (b.drop at_) 0 m).2]) ∧ w' = w := by
  have HB := Lib.hid hb
  have HN : Hid (n = b.length) := hb.hn
  have d1 : decide ((62 : Int) < (m : Int)) = false := by simp; omega
  have d2 : decide (n < at_) = false := by simp; omega
  obtain ⟨q, hq⟩ : ∃ q, q = n - at_ := ⟨_, rfl⟩
  have e1 : (n : Int) - (at_ : Int) = (q : Int) := by omega
  have hn2 : n = at_ + q := by omega
  have HN2 := Lib.hid hn2
  clear hb hq hn2
  by_cases hlt : q < m
  · have HT : Hid (takeRes (b.drop at_) 0 m = (0, 10)) := takeRes_no (by rw [← HN.out]; have := HN2.out; omega) (by rw [← HN.out]; omega)
    have d3 : decide (q < m) = true := by simp; omega
    go_enter Tryd.func52, Tryd.ntmps52
    go_wp2
    go_ret2
    rw [HT.out]
    exact ⟨rfl, rfl⟩
  · have HT : Hid (takeRes (b.drop at_) 0 m = (((numF b at_ m : Nat) : Int), 0)) := takeRes_yes (by rw [← HN.out]; have := HN2.out; omega)
    have d3 : decide (q < m) = false := by simp; omega
    have hmn : at_ + m ≤ n := by have := HN2.out; omega
    clear hlt e1
    have e1 : (n : Int) - (at_ : Int) = (q : Int) := by have := HN2.out; omega
    go_enter Tryd.func52, Tryd.ntmps52
    go_wp2
    go_loop [8, 9] (fun vv iv => ∃ j x : Nat, j ≤ m ∧ iv = .int .i64 ((at_ : Int) + (j : Int)) ∧ vv = .int .i64 x ∧ x ≤ 1099511627776 ∧ Hid (x = numF b at_ j)) (fun _ iv => at_ + m - (intOf iv).toNat)
    case atStart => exact ⟨0, 0, Nat.zero_le _, by simp, rfl, by omega, rfl⟩
    case round =>
      obtain ⟨j, x, hj, rfl, rfl, hx, HX⟩ := hrel
      by_cases hlt : j < m
      · obtain ⟨ad, rfl, _, hcs⟩ := HB.out.rd (by rw [← HN.out]; omega)
        have hx1 := hcs (at_ + j) (by rw [← HN.out]; omega)
        have HS : Hid (∀ y, b.getD (at_ + j) false = y → numF b at_ (j + 1) = 2 * x + (if y then 1 else 0)) := by
          show ∀ y, _
          rintro y rfl
          rw [HX.out]; rfl
        have hnl := numF_lt b at_ (j + 1)
        have h40 : 2 ^ (j + 1) ≤ 2 ^ 40 := Nat.pow_le_pow_right (by omega) (by omega)
        have h41 : (2 : Nat) ^ 40 = 1099511627776 := by decide
        clear hcs
        generalize b.getD (at_ + j) false = y at *
        cases y with
        | true =>
          have HS2 := Lib.hid (HS.out true rfl)
          have hb2 : 2 * x + 1 ≤ 1099511627776 := by
            have h := HS2.out
            simp only [if_true] at h
            omega
          clear hnl h40 h41
          go_wp2
          exact ⟨⟨j + 1, 2 * x + 1, by omega, by go_num, by go_num, hb2, HS2.out.symm⟩, by simp [intOf]; omega⟩
        | false =>
          have HS2 := Lib.hid (HS.out false rfl)
          have hb2 : 2 * x ≤ 1099511627776 := by
            have h := HS2.out
            simp only [Bool.false_eq_true, if_false] at h
            omega
          clear hnl h40 h41
          go_wp2
          exact ⟨⟨j + 1, 2 * x, by omega, by go_num, by go_num, hb2, HS2.out.symm⟩, by simp [intOf]; omega⟩
      · obtain rfl : j = m := by omega
        go_wp2
        go_ret2
        rw [HT.out, ← HX.out]
        exact ⟨rfl, rfl⟩
set_option maxRecDepth 100000 in
set_option maxHeartbeats 4000000 in
theorem ROver_ref (A : Option Addr) (n c : Nat) (b : List Bool) (at_ : Nat) (w : World) (hb : SR vB false w A n c b) (ha : at_ ≤ n) (hn : n ≤ 1048576) :
    Calls Tryd.prog 34 #[.slice A n c, .int .i64 (at_ : Int)] w fun e w' => e = .returned (.bool (endB (b.drop at_))) ∧ w' = w := by
  have HB := Lib.hid hb
  have HN : Hid (n = b.length) := hb.hn
  obtain ⟨q, hq⟩ : ∃ q, q = n - at_ := ⟨_, rfl⟩
  have e1 : (n : Int) - (at_ : Int) = (q : Int) := by omega
  have hn2 : n = at_ + q := by omega
  have HN2 := Lib.hid hn2
  have HL : Hid ((b.drop at_).length = q) := by show _ = _; rw [List.length_drop, ← HN.out]; omega
  have HG : Hid (∀ j, (b.drop at_).getD j false = b.getD (at_ + j) false) := by
    show ∀ j, _
    intro j
    simp only [List.getD, List.getElem?_drop]
  have HQ : Hid (∀ j, at_ + j < n ↔ j < q) := fun j => by have := HN2.out; omega
  clear hb hq hn2
  go_enter Tryd.func34, Tryd.ntmps34
  go_wp2
  go_loop [5] (fun iv => ∃ j : Nat, at_ + j ≤ n ∧ iv = .int .i64 ((at_ : Int) + (j : Int)) ∧ Hid (∀ i, i < j → (b.drop at_).getD i false = true)) (fun iv => n - (intOf iv).toNat)
  case atStart => exact ⟨0, by omega, by simp, fun i hi => by omega⟩
  case round =>
    obtain ⟨j, hj, rfl, hJ⟩ := hrel
    by_cases hlt : at_ + j < n
    · obtain ⟨ad, rfl, _, hcs⟩ := HB.out.rd (by rw [← HN.out]; omega)
      have hx1 := hcs (at_ + j) (by rw [← HN.out]; omega)
      have HEF : Hid (b.getD (at_ + j) false = false → endB (b.drop at_) = false) := fun h => endB_false (k := j) (by rw [HL.out]; exact (HQ.out j).1 hlt) (by rw [HG.out]; exact h)
      have HJ2 : Hid (b.getD (at_ + j) false = true → ∀ i, i < j + 1 → (b.drop at_).getD i false = true) := by
        show _ → _
        intro h i hi
        rcases Nat.lt_or_ge i j with h1 | h1
        · exact hJ.out i h1
        · obtain rfl : i = j := by omega
          rw [HG.out]; exact h
      clear hcs
      generalize b.getD (at_ + j) false = y at *
      cases y with
      | true =>
        have HJ3 := Lib.hid (HJ2.out rfl)
        clear HEF HJ2
        go_wp2
        exact ⟨⟨j + 1, by omega, by go_num, HJ3.out⟩, by simp [intOf]; omega⟩
      | false =>
        have HEF2 := Lib.hid (HEF.out rfl)
        clear HEF HJ2
        go_wp2
        go_ret
        exact ⟨by rw [HEF2.out]; rfl, rfl⟩
    · have hjq : j = q := by have := HN2.out; omega
      have HE : Hid (endB (b.drop at_) = decide (q < 12)) := by
        show _ = _
        unfold endB
        rw [HL.out, all_true (d := false) (fun i hi => hJ.out i (by rw [HL.out] at hi; omega)), Bool.and_true]
      clear hJ
      by_cases h12 : q < 12
      · have d3 : decide ((q : Int) < 12) = true := by simp; omega
        go_wp2
        go_ret
        rw [HE.out, decide_eq_true h12]
        exact ⟨rfl, rfl⟩
      · have d3 : decide ((q : Int) < 12) = false := by simp; omega
        go_wp2
        go_ret
        rw [HE.out, decide_eq_false h12]
        exact ⟨rfl, rfl⟩
end Go.Proofs.YtplppbfnlfehnaaDoor
