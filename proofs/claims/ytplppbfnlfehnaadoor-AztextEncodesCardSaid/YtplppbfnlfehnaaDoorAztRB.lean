import Derived.Test.YtplppbfnlfehnaaDoorAztRA
namespace Go.Proofs.YtplppbfnlfehnaaDoor
open Go.RowKit Go.WideMaps Go.Maps
set_option linter.unusedVariables false
/-! the reference's unstuffing -/
set_option maxRecDepth 100000 in
set_option maxHeartbeats 4000000 in
theorem RUnstuff_yes (A : Option Addr) (n c s : Nat) (ws : List Int) (w : World) (hb : SR vI 0 w A n c ws) (h1 : 2 ≤ s) (h2 : s ≤ 12) :
    Calls Tryd.prog 21 #[.slice A n c, .int .i64 s] w (RT vB false w (unstuffRes ws s)) := by
  obtain ⟨i0, hi, hz0, hz1, hz2⟩ := info_parts boolInfo
  have HB := Lib.hid hb
  have HN : Hid (n = ws.length) := hb.hn
  have hn63 : n ≤ 9223372036854775807 := by have := hb.hm; have := hb.hc; unfold maxLen at *; omega
  have hpw := pow_wrap (j := s) h2
  have hp1 := pow_lt13 h2
  have hp2 : 4 ≤ 2 ^ s := by
    have := Nat.pow_le_pow_right (n := 2) (by omega) h1
    simpa using this
  have HIN0 : Hid (∀ k, k < n → (decide (0 ≤ ws.getD k 0) && decide (ws.getD k 0 ≤ ((2 ^ s - 1 : Nat) : Int))) = false → unstuffRes ws s = ([], 3)) := by
    show ∀ k, _
    intro k hk h
    unfold unstuffRes
    have e : inW ((s : Nat) : Int).toNat ws = false := all_false (d := 0) (by rw [← HN.out]; exact hk) h
    rw [if_neg (by omega), if_pos e]
  have HIN1 : Hid ((∀ j, j < n → 0 ≤ ws.getD j 0 ∧ ws.getD j 0 ≤ ((2 ^ s - 1 : Nat) : Int)) → inW s ws = true) := by
    show _ → _
    intro h
    refine all_true (d := 0) fun j hj => ?_
    have := h j (by rw [HN.out]; exact hj)
    rw [decide_eq_true this.1, decide_eq_true this.2]; rfl
  have HOK0 : Hid (inW s ws = true → 1048576 / (s : Int) < (n : Int) → unstuffRes ws s = ([], 4)) := by
    show _ → _
    intro h h3
    unfold unstuffRes
    rw [if_neg (by omega), if_neg (by rw [show ((s : Nat) : Int).toNat = s from rfl, h]; simp), if_pos (by rw [← HN.out]; exact h3)]
  have HOK1 : Hid (inW s ws = true → ¬ 1048576 / (s : Int) < (n : Int) → ∀ k, k < n → (!(ws.getD k 0 == 0) && !(ws.getD k 0 == ((2 ^ s - 1 : Nat) : Int))) = false → unstuffRes ws s = ([], 22)) := by
    show _ → _
    intro h h3 k hk h4
    unfold unstuffRes
    have e : okW ((s : Nat) : Int).toNat ws = false := all_false (d := 0) (by rw [← HN.out]; exact hk) h4
    rw [if_neg (by omega), if_neg (by rw [show ((s : Nat) : Int).toNat = s from rfl, h]; simp), if_neg (by rw [← HN.out]; exact h3), if_pos e]
  have HOK2 : Hid (inW s ws = true → ¬ 1048576 / (s : Int) < (n : Int) → (∀ j, j < n → ws.getD j 0 ≠ 0 ∧ ws.getD j 0 ≠ ((2 ^ s - 1 : Nat) : Int)) → unstuffRes ws s = (unF s ws n, 0)) := by
    show _ → _
    intro h h3 h4
    unfold unstuffRes
    have e : okW s ws = true := all_true (d := 0) fun j hj => by
      have := h4 j (by rw [HN.out]; exact hj)
      rw [beq_eq_false_iff_ne.2 this.1, beq_eq_false_iff_ne.2 this.2]; rfl
    rw [if_neg (by omega), if_neg (by rw [show ((s : Nat) : Int).toNat = s from rfl, h]; simp), if_neg (by rw [← HN.out]; exact h3), if_neg (by rw [show ((s : Nat) : Int).toNat = s from rfl, e]; simp), ← HN.out]
    rfl
  obtain ⟨M, hM⟩ : ∃ M, M = 2 ^ s - 1 := ⟨_, rfl⟩
  have HM := Lib.hid hM
  rw [← hM] at hpw HIN0 HIN1 HOK1 HOK2
  have hM1 : 3 ≤ M := by omega
  have hM2 : M ≤ 4095 := by omega
  have hsz : decide ((s : Int) < 2) = false := by simp; omega
  have hsz2 : decide ((12 : Int) < (s : Int)) = false := by simp; omega
  clear hb hM hp1 hp2
  go_enter Tryd.func21, Tryd.ntmps21
  go_wp2
  go_loop [7] (fun iv => ∃ k : Nat, k ≤ n ∧ iv = .int .i64 k ∧ Hid (∀ j, j < k → 0 ≤ ws.getD j 0 ∧ ws.getD j 0 ≤ (M : Int))) (fun iv => n - (intOf iv).toNat)
  case atStart => exact ⟨0, Nat.zero_le _, rfl, fun j hj => by omega⟩
  case round =>
    obtain ⟨k, hk, rfl, hG⟩ := hrel
    by_cases hlt : k < n
    · obtain ⟨ad, rfl, hadw, hca⟩ := HB.out.rd (by rw [← HN.out]; omega)
      have hx1 := hca k (by rw [← HN.out]; exact hlt)
      clear hca
      have H3 := HIN0.out k hlt
      have HG2 : Hid (0 ≤ ws.getD k 0 ∧ ws.getD k 0 ≤ (M : Int) → ∀ j, j < k + 1 → 0 ≤ ws.getD j 0 ∧ ws.getD j 0 ≤ (M : Int)) := by
        show _ → _
        intro h j hj
        rcases Nat.lt_or_ge j k with h1 | h1
        · exact hG.out j h1
        · obtain rfl : j = k := by omega
          exact h
      generalize ws.getD k 0 = x at *
      by_cases hx : 0 ≤ x ∧ x ≤ (M : Int)
      · have HG3 := Lib.hid (HG2.out hx)
        have hx1' := hx.1
        have hx2' := hx.2
        clear hx H3
        go_wp2
        exact ⟨⟨k + 1, by omega, by go_num, HG3.out⟩, by simp [intOf]; omega⟩
      · have HF := Lib.hid (H3 (by
          by_cases h0 : 0 ≤ x
          · rw [decide_eq_true h0, decide_eq_false (fun h => hx ⟨h0, h⟩)]; rfl
          · rw [decide_eq_false h0]; rfl))
        have hx' : x < 0 ∨ (0 ≤ x ∧ (M : Int) < x) := by omega
        clear hx H3
        rcases hx' with hx | ⟨hx, hx2⟩
        · go_wp2
          go_ret2
          exact RT.mk HF.out (SG.nil_ _) (Below.refl _ _)
        · go_wp2
          go_ret2
          exact RT.mk HF.out (SG.nil_ _) (Below.refl _ _)
    · obtain rfl : k = n := by omega
      have HIN := Lib.hid (HIN1.out hG.out)
      clear HIN0 HIN1
      by_cases hq : 1048576 / (s : Int) < (k : Int)
      · have HF := Lib.hid (HOK0.out HIN.out hq)
        go_wp2
        go_ret2
        exact RT.mk HF.out (SG.nil_ _) (Below.refl _ _)
      have HOK3 : Hid (∀ j, j < k → (!(ws.getD j 0 == 0) && !(ws.getD j 0 == (M : Int))) = false → unstuffRes ws s = ([], 22)) := HOK1.out HIN.out (by simpa using hq)
      have HOK4 : Hid ((∀ j, j < k → ws.getD j 0 ≠ 0 ∧ ws.getD j 0 ≠ (M : Int)) → unstuffRes ws s = (unF s ws k, 0)) := HOK2.out HIN.out (by simpa using hq)
      have hk6 : k ≤ 1048576 := by
        have h5 : 1048576 / (s : Int) ≤ 1048576 := Int.ediv_le_self _ (by omega)
        omega
      have hk7 : Hid (s * k ≤ 1048576) := by
        have h5 : (k : Int) ≤ 1048576 / (s : Int) := by omega
        have h6 : (k : Int) * (s : Int) ≤ 1048576 := (Int.le_ediv_iff_mul_le (by omega)).1 h5
        show _ ≤ _
        rw [Nat.mul_comm]
        have h8 : ((k * s : Nat) : Int) ≤ ((1048576 : Nat) : Int) := by rw [Int.natCast_mul]; exact h6
        exact Int.ofNat_le.1 h8
      clear HOK0 HOK1 HOK2
      go_wp2
      clear hk
      generalize k = n' at *
      obtain ⟨t, ht⟩ : ∃ t, t = s - 1 := ⟨_, rfl⟩
      have ht1 : ((s : Int) - 1) = (t : Int) := by omega
      have HT := Lib.hid ht
      have ht9 : t ≤ 11 := by omega
      clear ht
      go_loopw [8, 9] (fun ov iv wr => ∃ k : Nat, k ≤ n' ∧ iv = .int .i64 k ∧ Hid (∀ j, j < k → ws.getD j 0 ≠ 0 ∧ ws.getD j 0 ≠ (M : Int)) ∧ Hid (SG vB false wr ov (unF s ws k)) ∧ Hid (Below w.heap.size w wr)) (fun _ iv _ => n' - (intOf iv).toNat)
      case atStart => exact ⟨0, Nat.zero_le _, rfl, fun j hj => by omega, SG.nil_ _, Below.refl _ _⟩
      case round =>
        obtain ⟨k, hk, rfl, hK, hS, hBW⟩ := hrel
        by_cases hlt : k < n'
        · obtain ⟨ad, rfl, hadw, hca⟩ := (HB.out.below hBW.out).rd (by rw [← HN.out]; omega)
          have hx1 := hca k (by rw [← HN.out]; exact hlt)
          clear hca
          have H3 := HOK3.out k hlt
          have HG2 : Hid (ws.getD k 0 ≠ 0 ∧ ws.getD k 0 ≠ (M : Int) → ∀ j, j < k + 1 → ws.getD j 0 ≠ 0 ∧ ws.getD j 0 ≠ (M : Int)) := by
            show _ → _
            intro h j hj
            rcases Nat.lt_or_ge j k with h1 | h1
            · exact hK.out j h1
            · obtain rfl : j = k := by omega
              exact h
          obtain ⟨h3, h4⟩ := hG.out k hlt
          obtain ⟨N, hN⟩ := Int.eq_ofNat_of_zero_le h3
          have HST : Hid (unF s ws (k + 1) = unF s ws k ++ unB s N) := by
            show unF s ws k ++ unB s (ws.getD k 0).toNat = _
            rw [hN]; rfl
          rw [hN] at hx1 h4 H3 HG2
          clear h3 hN
          have hN2 : N ≤ M := by omega
          clear h4
          by_cases h0 : N = 0
          · subst h0
            have HF := Lib.hid (H3 rfl)
            clear H3 HG2
            go_wp2
            go_ret2
            exact RT.mk HF.out (SG.nil_ _) hBW.out
          have y1 : ((N : Int) == 0) = false := by rw [beq_eq_false_iff_ne]; omega
          by_cases h1M : N = M
          · have HF := Lib.hid (H3 (by rw [y1, h1M]; simp))
            have y2 : ((N : Int) == (M : Int)) = true := by rw [beq_iff_eq]; omega
            clear H3 HG2
            go_wp2
            go_ret2
            exact RT.mk HF.out (SG.nil_ _) hBW.out
          have y2 : ((N : Int) == (M : Int)) = false := by rw [beq_eq_false_iff_ne]; omega
          have HG3 := Lib.hid (HG2.out ⟨by omega, by omega⟩)
          have HLN : Hid ((unF s ws k).length + s ≤ 1048576) := by
            have h5 := unF_len s ws k
            have h6 : s * (k + 1) ≤ s * n' := Nat.mul_le_mul_left _ hlt
            rw [Nat.mul_succ] at h6
            have := hk7.out
            show _ ≤ _
            omega
          obtain ⟨A5, n5, c5, rfl, hs5⟩ := hS.out.parts
          have HS5 := Lib.hid hs5
          have hn5 : n5 + s ≤ 1048576 := by rw [hs5.hn]; exact HLN.out
          clear H3 HG2 h0 h1M hS hs5
          obtain ⟨F, hF⟩ : ∃ F, F = N / 2 := ⟨_, rfl⟩
          obtain ⟨G, hG2⟩ : ∃ G, G = M / 2 := ⟨_, rfl⟩
          have e1 : (N : Int) / 2 = (F : Int) := by omega
          have e2 : (M : Int) / 2 = (G : Int) := by omega
          have HUB : Hid (unB s N = if F = 0 ∨ F = G then lowB F t else lowB N s) := by
            show _ = _
            unfold unB
            rw [hF, hG2, HM.out, HT.out]
          have hF2 : F ≤ 4095 := by omega
          clear hF hG2
          by_cases f0 : F = 0
          · subst f0
            have HST2 : Hid (unF s ws (k + 1) = unF s ws k ++ lowB 0 t) := by show _ = _; rw [HST.out, HUB.out, if_pos (.inl rfl)]
            clear HST HUB
            go_wp2_with (go_at_call 29; refine (RAppend_any A5 n5 c5 _ 0 t _ HS5.out (by omega) (by omega) (by omega)).mono ?_; rintro e W6 ⟨v6, rfl, hs6, hb6⟩; have HS6 := Lib.hid hs6; have HB6 := Lib.hid (bwStep hBW.out hb6); clear hs6 hb6)
            exact ⟨⟨k + 1, by omega, by go_num, HG3.out, by show SG _ _ _ _ _; rw [HST2.out]; exact HS6.out, HB6.out⟩, by simp [intOf]; omega⟩
          have f1 : ((F : Int) == 0) = false := by rw [beq_eq_false_iff_ne]; omega
          by_cases fG : F = G
          · subst fG
            have HST2 : Hid (unF s ws (k + 1) = unF s ws k ++ lowB F t) := by show _ = _; rw [HST.out, HUB.out, if_pos (.inr rfl)]
            clear HST HUB f0
            go_wp2_with (go_at_call 29; refine (RAppend_any A5 n5 c5 _ F t _ HS5.out (by omega) (by omega) (by omega)).mono ?_; rintro e W6 ⟨v6, rfl, hs6, hb6⟩; have HS6 := Lib.hid hs6; have HB6 := Lib.hid (bwStep hBW.out hb6); clear hs6 hb6)
            exact ⟨⟨k + 1, by omega, by go_num, HG3.out, by show SG _ _ _ _ _; rw [HST2.out]; exact HS6.out, HB6.out⟩, by simp [intOf]; omega⟩
          · have f2 : ((F : Int) == (G : Int)) = false := by rw [beq_eq_false_iff_ne]; omega
            have HST2 : Hid (unF s ws (k + 1) = unF s ws k ++ lowB N s) := by show _ = _; rw [HST.out, HUB.out, if_neg (by omega)]
            clear HST HUB f0 fG
            go_wp2_with (go_at_call 29; refine (RAppend_any A5 n5 c5 _ N s _ HS5.out (by omega) (by omega) (by omega)).mono ?_; rintro e W6 ⟨v6, rfl, hs6, hb6⟩; have HS6 := Lib.hid hs6; have HB6 := Lib.hid (bwStep hBW.out hb6); clear hs6 hb6)
            exact ⟨⟨k + 1, by omega, by go_num, HG3.out, by show SG _ _ _ _ _; rw [HST2.out]; exact HS6.out, HB6.out⟩, by simp [intOf]; omega⟩
        · obtain rfl : k = n' := by omega
          have HR := Lib.hid (HOK4.out hK.out)
          obtain ⟨A5, n5, c5, rfl, hs5⟩ := hS.out.parts
          have HS5 := Lib.hid hs5
          clear HOK3 HOK4 hS hs5
          go_wp2
          go_ret2
          exact RT.mk HR.out HS5.out.sg hBW.out
set_option maxRecDepth 100000 in
set_option maxHeartbeats 1000000 in
theorem RUnstuff_any (A : Option Addr) (n c : Nat) (size : Int) (ws : List Int) (w : World) (hb : SR vI 0 w A n c ws) :
    Calls Tryd.prog 21 #[.slice A n c, .int .i64 size] w (RT vB false w (unstuffRes ws size)) := by
  by_cases h1 : size < 2
  · have HF : Hid (unstuffRes ws size = ([], 3)) := by show _ = _; unfold unstuffRes; rw [if_pos (.inl h1)]
    clear hb
    go_enter Tryd.func21, Tryd.ntmps21
    go_wp2
    go_ret2
    exact RT.mk HF.out (SG.nil_ _) (Below.refl _ _)
  by_cases h2 : 12 < size
  · have HF : Hid (unstuffRes ws size = ([], 3)) := by show _ = _; unfold unstuffRes; rw [if_pos (.inr h2)]
    clear hb
    go_enter Tryd.func21, Tryd.ntmps21
    go_wp2
    go_ret2
    exact RT.mk HF.out (SG.nil_ _) (Below.refl _ _)
  obtain ⟨s, rfl⟩ := Int.eq_ofNat_of_zero_le (show 0 ≤ size by omega)
  exact RUnstuff_yes A n c s ws w hb (by omega) (by omega)
set_option maxRecDepth 100000 in
set_option maxHeartbeats 1000000 in
theorem Unstuff_any (A : Option Addr) (n c : Nat) (size : Int) (ws : List Int) (w : World) (hb : SR vI 0 w A n c ws) :
    Calls Tryd.prog 20 #[.slice A n c, .int .i64 size] w (RT vB false w (unstuffRes ws size)) := by
  by_cases h1 : size < 2
  · have HF : Hid (unstuffRes ws size = ([], 3)) := by show _ = _; unfold unstuffRes; rw [if_pos (.inl h1)]
    clear hb
    go_enter Tryd.func20, Tryd.ntmps20
    go_wp2
    go_ret2
    exact RT.mk HF.out (SG.nil_ _) (Below.refl _ _)
  by_cases h2 : 12 < size
  · have HF : Hid (unstuffRes ws size = ([], 3)) := by show _ = _; unfold unstuffRes; rw [if_pos (.inr h2)]
    clear hb
    go_enter Tryd.func20, Tryd.ntmps20
    go_wp2
    go_ret2
    exact RT.mk HF.out (SG.nil_ _) (Below.refl _ _)
  obtain ⟨s, rfl⟩ := Int.eq_ofNat_of_zero_le (show 0 ≤ size by omega)
  exact Unstuff_yes A n c s ws w hb (by omega) (by omega)
end Go.Proofs.YtplppbfnlfehnaaDoor
