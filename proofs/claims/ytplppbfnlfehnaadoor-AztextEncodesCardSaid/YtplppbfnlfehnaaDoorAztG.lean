import Derived.Test.YtplppbfnlfehnaaDoorAztF
namespace Go.Proofs.YtplppbfnlfehnaaDoor
open Go.RowKit
set_option linter.unusedVariables false
/-! Unstuff -/
/-- the bits of a codeword -/
def unB (s w : Nat) : List Bool := if w / 2 = 0 ∨ w / 2 = (2 ^ s - 1) / 2 then lowB (w / 2) (s - 1) else lowB w s
def unF (s : Nat) (ws : List Int) : Nat → List Bool
  | 0 => []
  | k + 1 => unF s ws k ++ unB s (ws.getD k 0).toNat
theorem unB_len (s w : Nat) : (unB s w).length ≤ s := by
  unfold unB; split
  · rw [lowB_length]; omega
  · rw [lowB_length]; exact Nat.le_refl _
theorem unF_len (s : Nat) (ws : List Int) (k : Nat) : (unF s ws k).length ≤ s * k := by
  induction k with
  | zero => exact Nat.le_refl _
  | succ k ih =>
    show (unF s ws k ++ unB s _).length ≤ _
    rw [List.length_append, Nat.mul_succ]
    have := unB_len s (ws.getD k 0).toNat
    omega
def inW (s : Nat) (ws : List Int) : Bool := ws.all fun w => decide (0 ≤ w) && decide (w ≤ ((2 ^ s - 1 : Nat) : Int))
def okW (s : Nat) (ws : List Int) : Bool := ws.all fun w => !(w == 0) && !(w == ((2 ^ s - 1 : Nat) : Int))
def unstuffRes (ws : List Int) (size : Int) : List Bool × Int :=
  if size < 2 ∨ 12 < size then ([], 3)
  else if inW size.toNat ws = false then ([], 3)
  else if 1048576 / size < ws.length then ([], 4)
  else if okW size.toNat ws = false then ([], 22)
  else (unF size.toNat ws ws.length, 0)
theorem all_false {α : Type} {p : α → Bool} {d : α} {l : List α} {k : Nat} (hk : k < l.length) (h : p (l.getD k d) = false) : l.all p = false := by
  rw [List.all_eq_false]
  refine ⟨l[k], List.getElem_mem hk, ?_⟩
  have e : l.getD k d = l[k] := by simp [List.getD, hk]
  rw [e] at h
  rw [h]; simp
theorem all_true {α : Type} {p : α → Bool} {d : α} {l : List α} (h : ∀ j, j < l.length → p (l.getD j d) = true) : l.all p = true := by
  rw [List.all_eq_true]
  intro x hx
  obtain ⟨j, hj, rfl⟩ := List.getElem_of_mem hx
  have := h j hj
  simpa [List.getD, hj] using this
set_option maxRecDepth 100000 in
set_option maxHeartbeats 4000000 in
theorem Unstuff_yes (A : Option Addr) (n c s : Nat) (ws : List Int) (w : World) (hb : SR vI 0 w A n c ws) (h1 : 2 ≤ s) (h2 : s ≤ 12) :
    Calls Tryd.prog 20 #[.slice A n c, .int .i64 s] w (RT vB false w (unstuffRes ws s)) := by
  obtain ⟨i0, hi, hz0, hz1, hz2⟩ := info_parts boolInfo
  have HB := Lib.hid hb
  have HN : Hid (n = ws.length) := hb.hn
  have hn63 : n ≤ 9223372036854775807 := by have := hb.hm; have := hb.hc; unfold maxLen at *; omega
  have hpw := pow_wrap (j := s) h2
  have hp1 := pow_lt13 h2
  have hp2 : 4 ≤ 2 ^ s := by
    have := Nat.pow_le_pow_right (n := 2) (by omega) h1
    simpa using this
  have HIN0 : Hid (∀ k, k < n → (decide (0 ≤ ws.getD k 0) && decide (ws.getD k 0 ≤ ((2 ^ s - 1 : Nat) : Int))) = false → unstuffRes ws s = ([], 3)) := by
    show ∀ k, _
    intro k hk h
    unfold unstuffRes
    have e : inW ((s : Nat) : Int).toNat ws = false := all_false (d := 0) (by rw [← HN.out]; exact hk) h
    rw [if_neg (by omega), if_pos e]
  have HIN1 : Hid ((∀ j, j < n → 0 ≤ ws.getD j 0 ∧ ws.getD j 0 ≤ ((2 ^ s - 1 : Nat) : Int)) → inW s ws = true) := by
    show _ → _
    intro h
    refine all_true (d := 0) fun j hj => ?_
    have := h j (by rw [HN.out]; exact hj)
    rw [decide_eq_true this.1, decide_eq_true this.2]; rfl
  have HOK0 : Hid (inW s ws = true → 1048576 / (s : Int) < (n : Int) → unstuffRes ws s = ([], 4)) := by
    show _ → _
    intro h h3
    unfold unstuffRes
    rw [if_neg (by omega), if_neg (by rw [show ((s : Nat) : Int).toNat = s from rfl, h]; simp), if_pos (by rw [← HN.out]; exact h3)]
  have HOK1 : Hid (inW s ws = true → ¬ 1048576 / (s : Int) < (n : Int) → ∀ k, k < n → (!(ws.getD k 0 == 0) && !(ws.getD k 0 == ((2 ^ s - 1 : Nat) : Int))) = false → unstuffRes ws s = ([], 22)) := by
    show _ → _
    intro h h3 k hk h4
    unfold unstuffRes
    have e : okW ((s : Nat) : Int).toNat ws = false := all_false (d := 0) (by rw [← HN.out]; exact hk) h4
    rw [if_neg (by omega), if_neg (by rw [show ((s : Nat) : Int).toNat = s from rfl, h]; simp), if_neg (by rw [← HN.out]; exact h3), if_pos e]
  have HOK2 : Hid (inW s ws = true → ¬ 1048576 / (s : Int) < (n : Int) → (∀ j, j < n → ws.getD j 0 ≠ 0 ∧ ws.getD j 0 ≠ ((2 ^ s - 1 : Nat) : Int)) → unstuffRes ws s = (unF s ws n, 0)) := by
    show _ → _
    intro h h3 h4
    unfold unstuffRes
    have e : okW s ws = true := all_true (d := 0) fun j hj => by
      have := h4 j (by rw [HN.out]; exact hj)
      rw [beq_eq_false_iff_ne.2 this.1, beq_eq_false_iff_ne.2 this.2]; rfl
    rw [if_neg (by omega), if_neg (by rw [show ((s : Nat) : Int).toNat = s from rfl, h]; simp), if_neg (by rw [← HN.out]; exact h3), if_neg (by rw [show ((s : Nat) : Int).toNat = s from rfl, e]; simp), ← HN.out]
    rfl
  obtain ⟨M, hM⟩ : ∃ M, M = 2 ^ s - 1 := ⟨_, rfl⟩
  have HM := Lib.hid hM
  rw [← hM] at hpw HIN0 HIN1 HOK1 HOK2
  have hM1 : 3 ≤ M := by omega
  have hM2 : M ≤ 4095 := by omega
  have hsz : decide ((s : Int) < 2) = false := by simp; omega
  have hsz2 : decide ((12 : Int) < (s : Int)) = false := by simp; omega
  clear hb hM hp1 hp2
  go_enter Tryd.func20, Tryd.ntmps20
  go_wp2
  go_loop [28] (fun iv => ∃ k : Nat, k ≤ n ∧ iv = .int .i64 k ∧ Hid (∀ j, j < k → 0 ≤ ws.getD j 0 ∧ ws.getD j 0 ≤ (M : Int))) (fun iv => n - (intOf iv).toNat)
  case atStart => exact ⟨0, Nat.zero_le _, rfl, fun j hj => by omega⟩
  case round =>
    obtain ⟨k, hk, rfl, hG⟩ := hrel
    by_cases hlt : k < n
    · obtain ⟨ad, rfl, hadw, hca⟩ := HB.out.rd (by rw [← HN.out]; omega)
      have hx1 := hca k (by rw [← HN.out]; exact hlt)
      clear hca
      have H3 := HIN0.out k hlt
      have HG2 : Hid (0 ≤ ws.getD k 0 ∧ ws.getD k 0 ≤ (M : Int) → ∀ j, j < k + 1 → 0 ≤ ws.getD j 0 ∧ ws.getD j 0 ≤ (M : Int)) := by
        show _ → _
        intro h j hj
        rcases Nat.lt_or_ge j k with h1 | h1
        · exact hG.out j h1
        · obtain rfl : j = k := by omega
          exact h
      generalize ws.getD k 0 = x at *
      by_cases hx : 0 ≤ x ∧ x ≤ (M : Int)
      · have HG3 := Lib.hid (HG2.out hx)
        have hx1' := hx.1
        have hx2' := hx.2
        clear hx H3
        go_wp2
        exact ⟨⟨k + 1, by omega, by go_num, HG3.out⟩, by simp [intOf]; omega⟩
      · have HF := Lib.hid (H3 (by
          by_cases h0 : 0 ≤ x
          · rw [decide_eq_true h0, decide_eq_false (fun h => hx ⟨h0, h⟩)]; rfl
          · rw [decide_eq_false h0]; rfl))
        have hx' : x < 0 ∨ (0 ≤ x ∧ (M : Int) < x) := by omega
        clear hx H3
        rcases hx' with hx | ⟨hx, hx2⟩
        · go_wp2
          go_ret2
          exact RT.mk HF.out (SG.nil_ _) (Below.refl _ _)
        · go_wp2
          go_ret2
          exact RT.mk HF.out (SG.nil_ _) (Below.refl _ _)
    · obtain rfl : k = n := by omega
      have HIN := Lib.hid (HIN1.out hG.out)
      clear HIN0 HIN1
      by_cases hq : 1048576 / (s : Int) < (k : Int)
      · have HF := Lib.hid (HOK0.out HIN.out hq)
        go_wp2
        go_ret2
        exact RT.mk HF.out (SG.nil_ _) (Below.refl _ _)
      have HOK3 : Hid (∀ j, j < k → (!(ws.getD j 0 == 0) && !(ws.getD j 0 == (M : Int))) = false → unstuffRes ws s = ([], 22)) := HOK1.out HIN.out (by simpa using hq)
      have HOK4 : Hid ((∀ j, j < k → ws.getD j 0 ≠ 0 ∧ ws.getD j 0 ≠ (M : Int)) → unstuffRes ws s = (unF s ws k, 0)) := HOK2.out HIN.out (by simpa using hq)
      have hk6 : k ≤ 1048576 := by
        have h5 : 1048576 / (s : Int) ≤ 1048576 := Int.ediv_le_self _ (by omega)
        omega
      have hk7 : Hid (s * k ≤ 1048576) := by
        have h5 : (k : Int) ≤ 1048576 / (s : Int) := by omega
        have h6 : (k : Int) * (s : Int) ≤ 1048576 := (Int.le_ediv_iff_mul_le (by omega)).1 h5
        show _ ≤ _
        rw [Nat.mul_comm]
        have h8 : ((k * s : Nat) : Int) ≤ ((1048576 : Nat) : Int) := by rw [Int.natCast_mul]; exact h6
        exact Int.ofNat_le.1 h8
      clear HOK0 HOK1 HOK2
      go_wp2
      clear hk
      generalize k = n' at *
      go_loop [47] (fun iv => ∃ k : Nat, k ≤ n' ∧ iv = .int .i64 k ∧ Hid (∀ j, j < k → ws.getD j 0 ≠ 0 ∧ ws.getD j 0 ≠ (M : Int))) (fun iv => n' - (intOf iv).toNat)
      case atStart => exact ⟨0, Nat.zero_le _, rfl, fun j hj => by omega⟩
      case round =>
        obtain ⟨k, hk, rfl, hK⟩ := hrel
        by_cases hlt : k < n'
        · obtain ⟨ad, rfl, hadw, hca⟩ := HB.out.rd (by rw [← HN.out]; omega)
          have hx1 := hca k (by rw [← HN.out]; exact hlt)
          clear hca
          have H3 := HOK3.out k hlt
          have HG2 : Hid (ws.getD k 0 ≠ 0 ∧ ws.getD k 0 ≠ (M : Int) → ∀ j, j < k + 1 → ws.getD j 0 ≠ 0 ∧ ws.getD j 0 ≠ (M : Int)) := by
            show _ → _
            intro h j hj
            rcases Nat.lt_or_ge j k with h1 | h1
            · exact hK.out j h1
            · obtain rfl : j = k := by omega
              exact h
          generalize ws.getD k 0 = x at *
          by_cases hx : x ≠ 0 ∧ x ≠ (M : Int)
          · have HG3 := Lib.hid (HG2.out hx)
            have y1 : (x == 0) = false := beq_eq_false_iff_ne.2 hx.1
            have y2 : (x == (M : Int)) = false := beq_eq_false_iff_ne.2 hx.2
            clear hx H3
            go_wp2
            exact ⟨⟨k + 1, by omega, by go_num, HG3.out⟩, by simp [intOf]; omega⟩
          · have HF := Lib.hid (H3 (by
              by_cases h0 : x = 0
              · rw [beq_iff_eq.2 h0]; rfl
              · have : x = (M : Int) := by
                  by_cases h1 : x = (M : Int)
                  · exact h1
                  · exact absurd ⟨h0, h1⟩ hx
                rw [beq_iff_eq.2 this, Bool.not_true, Bool.and_false]))
            by_cases h0 : x = 0
            · subst h0
              clear hx H3
              go_wp2
              go_ret2
              exact RT.mk HF.out (SG.nil_ _) (Below.refl _ _)
            · have y1 : (x == 0) = false := beq_eq_false_iff_ne.2 h0
              have y2 : (x == (M : Int)) = true := by
                rw [beq_iff_eq]
                by_cases h1 : x = (M : Int)
                · exact h1
                · exact absurd ⟨h0, h1⟩ hx
              clear hx H3 h0
              go_wp2
              go_ret2
              exact RT.mk HF.out (SG.nil_ _) (Below.refl _ _)
        · obtain rfl : k = n' := by omega
          have HR := Lib.hid (HOK4.out hK.out)
          clear HOK3 HOK4
          have HIN2 : Hid (∀ j, j < k → 0 ≤ ws.getD j 0 ∧ ws.getD j 0 ≤ (M : Int)) := hG.out
          clear HIN
          go_wp2
          clear hk
          generalize k = n' at *
          go_loopw [11, 61] (fun ov iv wr => ∃ k : Nat, k ≤ n' ∧ iv = .int .i64 k ∧ Hid (OG vB 4 w wr ov (unF s ws k))) (fun _ iv _ => n' - (intOf iv).toNat)
          case atStart => exact ⟨0, Nat.zero_le _, rfl, OG.start _ _⟩
          case round =>
            obtain ⟨k, hk, rfl, hO⟩ := hrel
            by_cases hlt : k < n'
            · obtain ⟨ad, rfl, hadw, hca⟩ := (HB.out.below hO.out.B).rd (by rw [← HN.out]; omega)
              have hx1 := hca k (by rw [← HN.out]; exact hlt)
              clear hca
              obtain ⟨h3, h4⟩ := HIN2.out k hlt
              obtain ⟨N, hN⟩ := Int.eq_ofNat_of_zero_le h3
              have HST : Hid (unF s ws (k + 1) = unF s ws k ++ unB s N) := by
                show unF s ws k ++ unB s (ws.getD k 0).toNat = _
                rw [hN]; rfl
              rw [hN] at hx1 h4
              clear h3 hN
              have hN2 : N ≤ M := by omega
              clear h4
              obtain ⟨F, hF⟩ : ∃ F, F = N / 2 := ⟨_, rfl⟩
              obtain ⟨G, hG2⟩ : ∃ G, G = M / 2 := ⟨_, rfl⟩
              obtain ⟨t, ht⟩ : ∃ t, t = s - 1 := ⟨_, rfl⟩
              have e1 : (N : Int) / 2 = (F : Int) := by omega
              have e2 : (M : Int) / 2 = (G : Int) := by omega
              have e3 : ((s : Int) - 1) = (t : Int) := by omega
              have hF2 : F ≤ 4095 := by omega
              have ht1 : 1 ≤ t := by omega
              have ht2 : t ≤ 11 := by omega
              have HUN : Hid (unB s N = if F = 0 ∨ F = G then lowB F t else lowB N s) := by
                show _ = _
                unfold unB
                rw [← HM.out, ← hF, ← hG2, ← ht]
              clear hF hG2 ht
              by_cases hf : F = 0 ∨ F = G
              · have HST2 : Hid (unF s ws (k + 1) = unF s ws k ++ lowF F t t) := by show _ = _; rw [HST.out, HUN.out, if_pos hf]; rfl
                by_cases hf0 : F = 0
                · have z1 : ((F : Int) == 0) = true := by rw [beq_iff_eq]; omega
                  clear hf hf0
                  go_wp2
                  obtain ⟨wo, rfl⟩ : ∃ wo : World, wo = wr := ⟨_, rfl⟩
                  go_loopw [11, 16] (fun ov iv wr => ∃ (q : Nat) (j : Int), q ≤ t ∧ iv = .int .i64 j ∧ Hid (j = (t : Int) - 1 - q) ∧ Hid (OG vB 4 w wr ov (unF s ws k ++ lowF F t q))) (fun _ iv _ => (intOf iv + 1).toNat)
                  case atStart => exact ⟨0, _, Nat.zero_le _, rfl, by show _ = _; omega, by show OG _ _ _ _ _ _; rw [show lowF F t 0 = [] from rfl, List.append_nil]; exact hO.out⟩
                  case round =>
                    obtain ⟨q, j, hq2, rfl, hj, hP⟩ := hrel
                    by_cases hlt3 : q < t
                    · obtain ⟨i, hi1⟩ : ∃ i, i = t - 1 - q := ⟨_, rfl⟩
                      obtain rfl : j = (i : Int) := by have := hj.out; omega
                      have HI := Lib.hid hi1
                      have hi2 : i ≤ 61 := by omega
                      clear hi1
                      have hbit := bit_fact F i (by omega)
                      have HS3 : Hid (unF s ws k ++ lowF F t (q + 1) = (unF s ws k ++ lowF F t q) ++ [bitV F i]) := by show _ = _; rw [HI.out, List.append_assoc]; rfl
                      have HLE : Hid ((unF s ws k ++ lowF F t q).length ≤ 100000000) := by
                        show _ ≤ _
                        rw [List.length_append, lowF_length]
                        have h5 := unF_len s ws k
                        have h6 : s * k ≤ s * n' := Nat.mul_le_mul_left s hk
                        have h7 := hk7.out
                        omega
                      generalize bitV F i = y at *
                      go_wp2_with (at_builtin; refine wpList_append_G (f := vB) (d := false) oneB rfl _ _ _ rfl w.heap.size 4 i0 _ 1 Tryd.underlying24 hi hz0 hz1 hz2 rfl _ _ (unF s ws k ++ lowF F t q) rfl (ownsRow_alloc' hP.out.O _) (some ⟨wr.heap.size, 0, none⟩) 1 1 [y] rfl rfl (RG.one _ _ _ _ rfl) (by unfold maxLen; have := HLE.out; omega) (by have := HLE.out; omega) (by have := hP.out.B.size; simp; omega) ?_; intro v5 w5 hown hg; have HP := Lib.hid (hP.out.grow (bwA _ _) hown hg); clear hown hg)
                      exact ⟨⟨q + 1, _, by omega, rfl, by have := HI.out; show _ = _; omega, by rw [HS3.out]; exact HP.out⟩, by simp [intOf]⟩
                    · obtain rfl : q = t := by omega
                      have hj0 : decide ((0 : Int) ≤ j) = false := by have := hj.out; simp; omega
                      go_wp2
                      exact ⟨⟨k + 1, by omega, by go_num, by rw [HST2.out]; exact hP.out⟩, by simp [intOf]; omega⟩
                · have z1 : ((F : Int) == 0) = false := by rw [beq_eq_false_iff_ne]; omega
                  have z2 : ((F : Int) == (G : Int)) = true := by rw [beq_iff_eq]; omega
                  clear hf hf0
                  go_wp2
                  obtain ⟨wo, rfl⟩ : ∃ wo : World, wo = wr := ⟨_, rfl⟩
                  go_loopw [11, 16] (fun ov iv wr => ∃ (q : Nat) (j : Int), q ≤ t ∧ iv = .int .i64 j ∧ Hid (j = (t : Int) - 1 - q) ∧ Hid (OG vB 4 w wr ov (unF s ws k ++ lowF F t q))) (fun _ iv _ => (intOf iv + 1).toNat)
                  case atStart => exact ⟨0, _, Nat.zero_le _, rfl, by show _ = _; omega, by show OG _ _ _ _ _ _; rw [show lowF F t 0 = [] from rfl, List.append_nil]; exact hO.out⟩
                  case round =>
                    obtain ⟨q, j, hq2, rfl, hj, hP⟩ := hrel
                    by_cases hlt3 : q < t
                    · obtain ⟨i, hi1⟩ : ∃ i, i = t - 1 - q := ⟨_, rfl⟩
                      obtain rfl : j = (i : Int) := by have := hj.out; omega
                      have HI := Lib.hid hi1
                      have hi2 : i ≤ 61 := by omega
                      clear hi1
                      have hbit := bit_fact F i (by omega)
                      have HS3 : Hid (unF s ws k ++ lowF F t (q + 1) = (unF s ws k ++ lowF F t q) ++ [bitV F i]) := by show _ = _; rw [HI.out, List.append_assoc]; rfl
                      have HLE : Hid ((unF s ws k ++ lowF F t q).length ≤ 100000000) := by
                        show _ ≤ _
                        rw [List.length_append, lowF_length]
                        have h5 := unF_len s ws k
                        have h6 : s * k ≤ s * n' := Nat.mul_le_mul_left s hk
                        have h7 := hk7.out
                        omega
                      generalize bitV F i = y at *
                      go_wp2_with (at_builtin; refine wpList_append_G (f := vB) (d := false) oneB rfl _ _ _ rfl w.heap.size 4 i0 _ 1 Tryd.underlying24 hi hz0 hz1 hz2 rfl _ _ (unF s ws k ++ lowF F t q) rfl (ownsRow_alloc' hP.out.O _) (some ⟨wr.heap.size, 0, none⟩) 1 1 [y] rfl rfl (RG.one _ _ _ _ rfl) (by unfold maxLen; have := HLE.out; omega) (by have := HLE.out; omega) (by have := hP.out.B.size; simp; omega) ?_; intro v5 w5 hown hg; have HP := Lib.hid (hP.out.grow (bwA _ _) hown hg); clear hown hg)
                      exact ⟨⟨q + 1, _, by omega, rfl, by have := HI.out; show _ = _; omega, by rw [HS3.out]; exact HP.out⟩, by simp [intOf]⟩
                    · obtain rfl : q = t := by omega
                      have hj0 : decide ((0 : Int) ≤ j) = false := by have := hj.out; simp; omega
                      go_wp2
                      exact ⟨⟨k + 1, by omega, by go_num, by rw [HST2.out]; exact hP.out⟩, by simp [intOf]; omega⟩
              · have HST2 : Hid (unF s ws (k + 1) = unF s ws k ++ lowF N s s) := by show _ = _; rw [HST.out, HUN.out, if_neg hf]; rfl
                have z1 : ((F : Int) == 0) = false := by rw [beq_eq_false_iff_ne]; omega
                have z2 : ((F : Int) == (G : Int)) = false := by rw [beq_eq_false_iff_ne]; omega
                clear hf
                go_wp2
                obtain ⟨wo, rfl⟩ : ∃ wo : World, wo = wr := ⟨_, rfl⟩
                go_loopw [11, 16] (fun ov iv wr => ∃ (q : Nat) (j : Int), q ≤ s ∧ iv = .int .i64 j ∧ Hid (j = (s : Int) - 1 - q) ∧ Hid (OG vB 4 w wr ov (unF s ws k ++ lowF N s q))) (fun _ iv _ => (intOf iv + 1).toNat)
                case atStart => exact ⟨0, _, Nat.zero_le _, rfl, by show _ = _; omega, by show OG _ _ _ _ _ _; rw [show lowF N s 0 = [] from rfl, List.append_nil]; exact hO.out⟩
                case round =>
                  obtain ⟨q, j, hq2, rfl, hj, hP⟩ := hrel
                  by_cases hlt3 : q < s
                  · obtain ⟨i, hi1⟩ : ∃ i, i = s - 1 - q := ⟨_, rfl⟩
                    obtain rfl : j = (i : Int) := by have := hj.out; omega
                    have HI := Lib.hid hi1
                    have hi2 : i ≤ 61 := by omega
                    clear hi1
                    have hbit := bit_fact N i (by omega)
                    have HS3 : Hid (unF s ws k ++ lowF N s (q + 1) = (unF s ws k ++ lowF N s q) ++ [bitV N i]) := by show _ = _; rw [HI.out, List.append_assoc]; rfl
                    have HLE : Hid ((unF s ws k ++ lowF N s q).length ≤ 100000000) := by
                      show _ ≤ _
                      rw [List.length_append, lowF_length]
                      have h5 := unF_len s ws k
                      have h6 : s * k ≤ s * n' := Nat.mul_le_mul_left s hk
                      have h7 := hk7.out
                      omega
                    generalize bitV N i = y at *
                    go_wp2_with (at_builtin; refine wpList_append_G (f := vB) (d := false) oneB rfl _ _ _ rfl w.heap.size 4 i0 _ 1 Tryd.underlying24 hi hz0 hz1 hz2 rfl _ _ (unF s ws k ++ lowF N s q) rfl (ownsRow_alloc' hP.out.O _) (some ⟨wr.heap.size, 0, none⟩) 1 1 [y] rfl rfl (RG.one _ _ _ _ rfl) (by unfold maxLen; have := HLE.out; omega) (by have := HLE.out; omega) (by have := hP.out.B.size; simp; omega) ?_; intro v5 w5 hown hg; have HP := Lib.hid (hP.out.grow (bwA _ _) hown hg); clear hown hg)
                    exact ⟨⟨q + 1, _, by omega, rfl, by have := HI.out; show _ = _; omega, by rw [HS3.out]; exact HP.out⟩, by simp [intOf]⟩
                  · obtain rfl : q = s := by omega
                    have hj0 : decide ((0 : Int) ≤ j) = false := by have := hj.out; simp; omega
                    go_wp2
                    exact ⟨⟨k + 1, by omega, by go_num, by rw [HST2.out]; exact hP.out⟩, by simp [intOf]; omega⟩
            · obtain rfl : k = n' := by omega
              go_wp2
              go_ret2
              exact RT.mk HR.out hO.out.sg hO.out.B
end Go.Proofs.YtplppbfnlfehnaaDoor
