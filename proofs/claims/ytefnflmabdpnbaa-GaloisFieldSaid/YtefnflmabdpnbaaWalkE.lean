import Derived.Test.YtefnflmabdpnbaaWalkD
namespace Go.Proofs.Ytefnflmabdpnbaa
open Go.RowKit
/-! the reference's Valid -/
theorem bl_two_pow (n : Nat) : bl (2 ^ n) = n + 1 := bl_eq _ _ (Nat.le_refl _) (by rw [Nat.pow_succ]; have := Nat.two_pow_pos n; omega)
/-- the reference's answer in the case Char == 2 -/
theorem vldB_two (s p : Int) : vldB 2 s p = (decide (2 ≤ bl s.toNat) && decide (bl s.toNat ≤ 13) && decide (s = ((2 ^ (bl s.toNat - 1) : Nat) : Int)) && rirrB p ((bl s.toNat : Int) - 1)) := by
  unfold vldB rirrB
  by_cases hp0 : p = 0
  · subst hp0
    rw [if_pos rfl]
    have e0 : bl (0 : Int).toNat = 0 := rfl
    rw [e0]
    by_cases h1 : 2 ≤ bl s.toNat
    · have h2 : ¬ ((0 : Nat) : Int) = (bl s.toNat : Int) - 1 + 1 := by omega
      rw [decide_eq_false h2]
      have h3 : ¬ (2 < s ∧ (2 : Int) = s) := by omega
      by_cases h4 : 2 < s
      · have h5 : ¬ (2 : Int) = s := by omega
        simp [h5]
      · simp [h4]
    · have h5 : ¬ 2 < s := by
        intro h; have := two_le_bl s (by omega); omega
      simp [h1, h5]
  · rw [if_neg hp0, Bool.eq_iff_iff]
    simp only [Bool.and_eq_true, decide_eq_true_iff]
    constructor
    · rintro ⟨⟨⟨⟨h1, h2⟩, -⟩, h4⟩, h5⟩
      have hb := two_le_bl p h1
      have hs : bl s.toNat = bl p.toNat := by
        rw [h4, Int.toNat_natCast, bl_two_pow]; omega
      rw [hs]
      exact ⟨⟨⟨hb, h2⟩, h4⟩, ⟨by omega, by omega⟩, h5⟩
    · rintro ⟨⟨⟨h1, h2⟩, h3⟩, ⟨h4, h5⟩, h6⟩
      have hs : bl p.toNat = bl s.toNat := by omega
      rw [hs]
      have hp : 2 ≤ p := by
        have := pow_bl_le p.toNat (by omega)
        rw [hs] at this
        have h7 : 2 ^ 1 ≤ 2 ^ (bl s.toNat - 1) := Nat.pow_le_pow_right (by omega) (by omega)
        omega
      exact ⟨⟨⟨⟨hp, h2⟩, trivial⟩, h3⟩, h6⟩

set_option maxHeartbeats 400000 in
theorem rvalid_p1 (s p : Int) (w : World) (hs : s ≤ 9223372036854775807) (h : bl s.toNat < 2) :
    Calls Try.prog 15 #[fldv 2 s p] w fun e w' => e = .returned (.bool (vldB 2 s p)) ∧ Below w.heap.size w w' := by
  have hI : vldB 2 s p = false := by rw [vldB_two]; simp; omega
  have HI := Lib.hid hI; clear hI
  go_enter Try.func15, Try.ntmps15
  go_wp2_with (go_at_call 46; refine (rdegree_any _ _ (by omega)).mono ?_; rintro e w' ⟨rfl, rfl⟩)
  go_ret
  exact ⟨ret_bool HI.out.symm, (Below.refl _ _).alloc (Nat.le_refl _) _⟩
set_option maxHeartbeats 400000 in
theorem rvalid_p2 (s p : Int) (w : World) (hs : s ≤ 9223372036854775807) (h : 13 < bl s.toNat) :
    Calls Try.prog 15 #[fldv 2 s p] w fun e w' => e = .returned (.bool (vldB 2 s p)) ∧ Below w.heap.size w w' := by
  have hI : vldB 2 s p = false := by rw [vldB_two]; simp; omega
  have HI := Lib.hid hI; clear hI
  go_enter Try.func15, Try.ntmps15
  go_wp2_with (go_at_call 46; refine (rdegree_any _ _ (by omega)).mono ?_; rintro e w' ⟨rfl, rfl⟩)
  go_ret
  exact ⟨ret_bool HI.out.symm, (Below.refl _ _).alloc (Nat.le_refl _) _⟩
theorem szw_eq' (s : Int) (h2 : bl s.toNat ≤ 13) : IntKind.i64.wrap (2 ^ (bl s.toNat - 1)) = ((2 ^ (bl s.toNat - 1) : Nat) : Int) := szw_eq s h2
set_option maxHeartbeats 400000 in
theorem rvalid_p3 (s z p : Int) (w : World) (hs : s ≤ 9223372036854775807) (h : 2 ≤ bl s.toNat) (h2 : bl s.toNat ≤ 13)
    (hz : wrap64 (2 ^ (bl s.toNat - 1)) = z) (h3 : (s == z) = false) :
    Calls Try.prog 15 #[fldv 2 s p] w fun e w' => e = .returned (.bool (vldB 2 s p)) ∧ Below w.heap.size w w' := by
  have hI : vldB 2 s p = false := by
    rw [vldB_two, ← szw_eq' s h2, IntWalk.i64_left, hz]
    have h4 : ¬ s = z := ne_of_beq_false h3
    simp [h4]
  have HI := Lib.hid hI; clear hI
  go_enter Try.func15, Try.ntmps15
  go_wp2_with (go_at_call 46; refine (rdegree_any _ _ (by omega)).mono ?_; rintro e w' ⟨rfl, rfl⟩)
  go_ret
  exact ⟨ret_bool HI.out.symm, (Below.refl _ _).alloc (Nat.le_refl _) _⟩
theorem szw2 (n : Nat) (h : n ≤ 13) : wrap64 (2 ^ n) = ((2 ^ n : Nat) : Int) := by
  have h := Nat.pow_le_pow_right (n := 2) (by omega) h
  rw [show ((2 : Int) ^ n) = ((2 ^ n : Nat) : Int) from by simp]
  generalize 2 ^ n = N at *
  exact IntWalk.wrap64_in _ (by omega)
set_option maxHeartbeats 400000 in
theorem rvalid_p4 (s z p : Int) (w : World) (hs : s ≤ 9223372036854775807) (h : 2 ≤ bl s.toNat) (h2 : bl s.toNat ≤ 13)
    (hz : wrap64 (2 ^ (bl s.toNat - 1)) = s) (hz2 : wrap64 (2 ^ (bl s.toNat)) = z) (h3 : z ≤ p) :
    Calls Try.prog 15 #[fldv 2 s p] w fun e w' => e = .returned (.bool (vldB 2 s p)) ∧ Below w.heap.size w w' := by
  have hI : vldB 2 s p = false := by
    rw [vldB_two]
    rw [szw2 _ h2] at hz2
    have h5 : ¬ (bl p.toNat : Int) = (bl s.toNat : Int) - 1 + 1 := by
      intro e
      have := (bl_le_iff p.toNat (bl s.toNat)).1 (by omega)
      omega
    unfold rirrB
    rw [decide_eq_false h5]; simp
  have HI := Lib.hid hI; clear hI
  go_enter Try.func15, Try.ntmps15
  go_wp2_with (go_at_call 46; refine (rdegree_any _ _ (by omega)).mono ?_; rintro e w' ⟨rfl, rfl⟩)
  go_ret
  exact ⟨ret_bool HI.out.symm, (Below.refl _ _).alloc (Nat.le_refl _) _⟩
set_option maxHeartbeats 400000 in
theorem rvalid_p5 (s z p : Int) (w : World) (hs : s ≤ 9223372036854775807) (hp1 : p ≤ 9223372036854775807) (h : 2 ≤ bl s.toNat) (h2 : bl s.toNat ≤ 13)
    (hz : wrap64 (2 ^ (bl s.toNat - 1)) = s) (hz2 : wrap64 (2 ^ (bl s.toNat)) = z) (h3 : p < z) :
    Calls Try.prog 15 #[fldv 2 s p] w fun e w' => e = .returned (.bool (vldB 2 s p)) ∧ Below w.heap.size w w' := by
  have hI : vldB 2 s p = rirrB p ((bl s.toNat : Int) - 1) := by
    rw [vldB_two]
    rw [IntWalk.i64_left .. |>.symm, szw_eq' s h2] at hz
    simp [h, h2, hz]
  have HI := Lib.hid hI; clear hI
  go_enter Try.func15, Try.ntmps15
  go_wp2_with (first | (go_at_call 46; refine (rdegree_any _ _ (by omega)).mono ?_; rintro e w' ⟨rfl, rfl⟩) | (go_at_call 41; refine (rirr_any _ _ _ (by omega) (by omega) (by omega)).mono ?_; rintro e w' ⟨rfl, rfl⟩))
  go_ret
  exact ⟨ret_bool HI.out.symm, (Below.refl _ _).alloc (Nat.le_refl _) _⟩
theorem rvalid_p (s p : Int) (w : World) (hs : s ≤ 9223372036854775807) (hp1 : p ≤ 9223372036854775807) :
    Calls Try.prog 15 #[fldv 2 s p] w fun e w' => e = .returned (.bool (vldB 2 s p)) ∧ Below w.heap.size w w' := by
  by_cases h : 2 ≤ bl s.toNat
  · by_cases h2 : bl s.toNat ≤ 13
    · by_cases h3 : s = wrap64 (2 ^ (bl s.toNat - 1))
      · by_cases h4 : p < wrap64 (2 ^ (bl s.toNat))
        · exact rvalid_p5 s _ p w hs hp1 h h2 h3.symm rfl h4
        · exact rvalid_p4 s _ p w hs h h2 h3.symm rfl (by omega)
      · exact rvalid_p3 s _ p w hs h h2 rfl (beq_false_of_ne h3)
    · exact rvalid_p2 s p w hs (by omega)
  · exact rvalid_p1 s p w hs (by omega)

theorem vldB_odd (c s p : Int) (hc : c ≠ 2) : vldB c s p = (decide (c = s) && decide (p = 0) && decide (3 ≤ s) && decide (s ≤ 4096) && primeB s.toNat) := by
  unfold vldB
  by_cases hp0 : p = 0
  · subst hp0; rw [if_pos rfl, Bool.eq_iff_iff]
    simp only [Bool.and_eq_true, decide_eq_true_iff]
    constructor
    · rintro ⟨⟨⟨h1, h2⟩, h3⟩, h4⟩; exact ⟨⟨⟨⟨h3, trivial⟩, by omega⟩, h2⟩, h4⟩
    · rintro ⟨⟨⟨⟨h3, -⟩, h1⟩, h2⟩, h4⟩; exact ⟨⟨⟨by omega, h2⟩, h3⟩, h4⟩
  · rw [if_neg hp0]; simp [hp0, hc]
set_option maxHeartbeats 400000 in
theorem rvalid_o1 (c s p : Int) (w : World) (hc : (c == 2) = false) (h : (c == s) = false) :
    Calls Try.prog 15 #[fldv c s p] w fun e w' => e = .returned (.bool (vldB c s p)) ∧ Below w.heap.size w w' := by
  have hI : vldB c s p = false := by rw [vldB_odd c s p (ne_of_beq_false hc)]; have := ne_of_beq_false h; simp [this]
  have HI := Lib.hid hI; clear hI
  go_enter Try.func15, Try.ntmps15
  go_wp2
  go_ret
  exact ⟨ret_bool HI.out.symm, (Below.refl _ _).alloc (Nat.le_refl _) _⟩
set_option maxHeartbeats 400000 in
theorem rvalid_o2 (s p : Int) (w : World) (hc : (s == 2) = false) (h : (p == 0) = false) :
    Calls Try.prog 15 #[fldv s s p] w fun e w' => e = .returned (.bool (vldB s s p)) ∧ Below w.heap.size w w' := by
  have hI : vldB s s p = false := by rw [vldB_odd s s p (ne_of_beq_false hc)]; have := ne_of_beq_false h; simp [this]
  have HI := Lib.hid hI; clear hI
  go_enter Try.func15, Try.ntmps15
  go_wp2
  go_ret
  exact ⟨ret_bool HI.out.symm, (Below.refl _ _).alloc (Nat.le_refl _) _⟩
set_option maxHeartbeats 400000 in
theorem rvalid_o3 (s : Int) (w : World) (hc : (s == 2) = false) (h : s < 3) :
    Calls Try.prog 15 #[fldv s s 0] w fun e w' => e = .returned (.bool (vldB s s 0)) ∧ Below w.heap.size w w' := by
  have hI : vldB s s 0 = false := by rw [vldB_odd s s 0 (ne_of_beq_false hc)]; simp; omega
  have HI := Lib.hid hI; clear hI
  go_enter Try.func15, Try.ntmps15
  go_wp2
  go_ret
  exact ⟨ret_bool HI.out.symm, (Below.refl _ _).alloc (Nat.le_refl _) _⟩
set_option maxHeartbeats 400000 in
theorem rvalid_o4 (s : Int) (w : World) (hc : (s == 2) = false) (h : 4096 < s) :
    Calls Try.prog 15 #[fldv s s 0] w fun e w' => e = .returned (.bool (vldB s s 0)) ∧ Below w.heap.size w w' := by
  have hI : vldB s s 0 = false := by rw [vldB_odd s s 0 (ne_of_beq_false hc)]; simp; omega
  have HI := Lib.hid hI; clear hI
  go_enter Try.func15, Try.ntmps15
  go_wp2
  go_ret
  exact ⟨ret_bool HI.out.symm, (Below.refl _ _).alloc (Nat.le_refl _) _⟩
set_option maxHeartbeats 400000 in
theorem rvalid_o5 (s : Int) (w : World) (hc : (s == 2) = false) (h : 3 ≤ s) (h2 : s ≤ 4096) :
    Calls Try.prog 15 #[fldv s s 0] w fun e w' => e = .returned (.bool (vldB s s 0)) ∧ Below w.heap.size w w' := by
  have hI : vldB s s 0 = primeB s.toNat := by rw [vldB_odd s s 0 (ne_of_beq_false hc)]; simp [h, h2]
  have HI := Lib.hid hI; clear hI
  go_enter Try.func15, Try.ntmps15
  go_wp2_with (first | (go_at_call 43; refine (rprime_any _ _ (by omega) (by omega)).mono ?_; rintro e w' ⟨rfl, rfl⟩))
  go_ret
  exact ⟨ret_bool HI.out.symm, (Below.refl _ _).alloc (Nat.le_refl _) _⟩
theorem rvalid_any (c s p : Int) (w : World) (hs : s ≤ 9223372036854775807) (hp1 : p ≤ 9223372036854775807) :
    Calls Try.prog 15 #[fldv c s p] w fun e w' => e = .returned (.bool (vldB c s p)) ∧ Below w.heap.size w w' := by
  by_cases hc : c = 2
  · subst hc; exact rvalid_p s p w hs hp1
  · by_cases h : c = s
    · subst h
      by_cases hp : p = 0
      · subst hp
        by_cases h1 : 3 ≤ c
        · by_cases h2 : c ≤ 4096
          · exact rvalid_o5 c w (beq_false_of_ne hc) h1 h2
          · exact rvalid_o4 c w (beq_false_of_ne hc) (by omega)
        · exact rvalid_o3 c w (beq_false_of_ne hc) (by omega)
      · exact rvalid_o2 c p w (beq_false_of_ne hc) (beq_false_of_ne hp)
    · exact rvalid_o1 c s p w (beq_false_of_ne hc) (beq_false_of_ne h)
end Go.Proofs.Ytefnflmabdpnbaa
