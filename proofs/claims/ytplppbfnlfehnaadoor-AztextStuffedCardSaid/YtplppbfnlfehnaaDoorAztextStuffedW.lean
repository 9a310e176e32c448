import Derived.Test.YtplppbfnlfehnaaDoorAztRB
import Derived.Test.YtplppbfnlfehnaaDoorAztPC
namespace Go.Proofs.YtplppbfnlfehnaaDoor.aztextStuffed
open Go.RowKit Go.WideMaps Go.Maps
set_option linter.unusedVariables false
set_option maxRecDepth 100000 in
set_option maxHeartbeats 4000000 in
theorem yes_walk (A : Option Addr) (n c : Nat) (b : List Bool) (s : Nat) (w : World) (hp : SR vB false w A n c b) (hs1 : 2 ≤ s) (hs2 : s ≤ 12) (hn : n ≤ 2000) :
    Calls Tryd.prog 7 #[.slice A n c, .int .i64 s] w fun e w' => e = .returned (.bool true) ∧ Below w.heap.size w w' := by
  have hN : n = b.length := hp.hn
  obtain ⟨e, u1, u2, u3, u4, u5, u6, u7⟩ := unstuff_stuff b s hs1 hs2 (by omega)
  have HP := Lib.hid hp
  have HS : stuffRes b s = (stuffL b s, 0) := by unfold stuffRes; rw [if_neg (by omega), if_neg (by omega), Int.toNat_natCast]
  have HSR := Lib.hid HS
  have HU3 := Lib.hid u3
  have HW := Lib.hid u6
  obtain ⟨W, hW⟩ : ∃ W, W = stuffL b s := ⟨_, rfl⟩
  rw [← hW] at HSR HU3 HW u4 u5 u7
  obtain ⟨m, hm⟩ : ∃ m, m = W.length := ⟨_, rfl⟩
  rw [← hm] at u4 u5 u7
  have HM := Lib.hid hm
  have HN := Lib.hid hN
  rw [← hN] at u1 u2 u4 u5 u7
  obtain ⟨M, hM⟩ : ∃ M, M = 2 ^ s - 1 := ⟨_, rfl⟩
  have hpw := pow_wrap (j := s) hs2
  rw [← hM] at hpw HW
  have hM2 : M ≤ 4095 := by rw [hM]; exact Nat.sub_le_sub_right (pow_lt13 hs2) 1
  have d1 : decide ((2000 : Int) < (n : Int)) = false := by simp; omega
  have d2 : decide ((s : Int) < 2) = false := by simp; omega
  have d3 : decide ((12 : Int) < (s : Int)) = false := by simp; omega
  have HTK := Lib.hid (oneB_take b e (by omega))
  have HTL : Hid (∀ i, n ≤ i → i < e → (oneB_ b 0 e).getD i false = true) := fun i h1 h2 => oneB_tail b e i (by omega) h2
  have HOL := Lib.hid (oneB_len b 0 e)
  have v1 : n ≤ m * s := u4
  have v2 : m * (s - 1) ≤ n + s - 2 := u5
  clear hp HS u3 u6 hW hm hN hM u4 u5
  go_enter Tryd.func7, Tryd.ntmps7
  go_wp2_with fail
  refine (Stuff_any A n c s b _ HP.out).mono ?_
  rintro e1 w1 ⟨v1', rfl, hs, hb⟩
  rw [HSR.out] at hs
  rw [HSR.out]
  obtain ⟨A1, n1, c1, rfl, hr⟩ := hs.int.parts
  have HB := Lib.hid hb
  have HS1 : Hid (SR vI 0 w1 A1 n1 c1 (zN W)) := hr
  have HP1 := Lib.hid (HP.out.below hb)
  have hn1 : n1 = m := by rw [hr.hn, HM.out]; simp
  rw [hn1] at HS1 ⊢
  clear hr hs hb hn1
  go_wp2
  go_loop [39] (fun iv => ∃ k : Nat, k ≤ m ∧ iv = .int .i64 k) (fun iv => m - (intOf iv).toNat)
  case atStart => exact ⟨0, Nat.zero_le _, rfl⟩
  case round =>
    obtain ⟨k, hk, rfl⟩ := hrel
    by_cases hlt : k < m
    · obtain ⟨ad, rfl, _, hcs⟩ := HS1.out.rd (by rw [zN_len, ← HM.out]; omega)
      have hx1 := hcs k (by rw [zN_len, ← HM.out]; exact hlt)
      clear hcs
      obtain ⟨x, hx, hxb⟩ : ∃ x : Nat, (zN W).getD k 0 = (x : Int) ∧ 1 ≤ x ∧ x < M := by
        have hl : k < W.length := by rw [← HM.out]; exact hlt
        refine ⟨W[k], ?_, HW.out _ (List.getElem_mem hl)⟩
        unfold zN
        simp [List.getD, hl]
      rw [hx] at hx1
      have d4 : decide ((x : Int) < 1) = false := by simp; omega
      have d5 : decide ((M : Int) ≤ (x : Int)) = false := by simp; omega
      clear hx
      go_wp2
      exact ⟨⟨k + 1, by omega, by go_num⟩, by simp [intOf]; omega⟩
    · obtain rfl : k = m := by omega
      go_wp2_with fail
      refine (Unstuff_any A1 k c1 s (zN W) _ HS1.out).mono ?_
      rintro e1 w2 ⟨v2', rfl, hs, hb⟩
      rw [HU3.out] at hs
      rw [HU3.out]
      obtain ⟨A2, n2, c2, rfl, hr⟩ := hs.parts
      have HB2 := Lib.hid (bwStep HB.out hb)
      have HP2 := Lib.hid (HP1.out.below hb)
      have hn2 : n2 = e := by rw [hr.hn, HOL.out]
      rw [hn2] at hr ⊢
      have HS2 := Lib.hid hr
      have hcap := hr.hc
      clear hr hs hb hn2
      have d6 : decide ((e : Int) < (n : Int)) = false := by simp; omega
      have d7 : decide ((n : Int) + (s : Int) ≤ (e : Int)) = false := by simp; omega
      go_wp2_with fail
      have HS2' : Hid (SR vB false w2 A2 n c2 b) := by
        have h := HS2.out.rd.take b.length
        rw [HTK.out] at h
        exact ⟨HN.out, by omega, HS2.out.hm, h⟩
      refine (Same_any A2 n c2 b A n c b _ HS2'.out HP2.out).mono ?_
      rintro e3 w3 ⟨rfl, hb⟩
      rw [decide_eq_true rfl]
      have HB3 := Lib.hid (bwStep HB2.out hb)
      have HS3 := Lib.hid (HS2.out.below hb)
      clear hb HP2 HP1
      go_wp2
      go_loop [10] (fun iv => ∃ i : Nat, n ≤ i ∧ i ≤ e ∧ iv = .int .i64 i) (fun iv => e - (intOf iv).toNat)
      case atStart => exact ⟨n, Nat.le_refl _, u1, rfl⟩
      case round =>
        obtain ⟨i, hi1, hi2, rfl⟩ := hrel
        by_cases hlt2 : i < e
        · obtain ⟨ad, rfl, _, hcs⟩ := HS3.out.rd (by rw [HOL.out]; omega)
          have hx1 := hcs i (by rw [HOL.out]; exact hlt2)
          rw [HTL.out i hi1 hlt2] at hx1
          clear hcs
          go_wp2
          exact ⟨⟨i + 1, by omega, by omega, by go_num⟩, by simp [intOf]; omega⟩
        · obtain rfl : i = e := by omega
          obtain ⟨P, hP⟩ : ∃ P, P = k * s := ⟨_, rfl⟩
          obtain ⟨Q, hQ⟩ : ∃ Q, Q = k * (s - 1) := ⟨_, rfl⟩
          rw [← hP] at v1
          rw [← hQ] at v2
          have hP2 : P ≤ 24000 := by rw [hP]; exact Nat.mul_le_mul (show k ≤ 2000 by omega) hs2
          have hQ2 : Q ≤ 24000 := by rw [hQ]; exact Nat.mul_le_mul (show k ≤ 2000 by omega) (show s - 1 ≤ 12 by omega)
          have hq1 : wrap64 ((k : Int) * (s : Int)) = (P : Int) := by
            rw [← Int.natCast_mul, ← hP]
            show wrap64 _ = _
            unfold wrap64; omega
          have hq2 : wrap64 ((k : Int) * ((s : Int) - 1)) = (Q : Int) := by
            have e9 : (s : Int) - 1 = ((s - 1 : Nat) : Int) := by omega
            rw [e9, ← Int.natCast_mul, ← hQ]
            unfold wrap64; omega
          have d8 : decide (n ≤ P) = true := by simp; omega
          have d9 : decide ((Q : Int) ≤ (n : Int) + (s : Int) - 2) = true := by simp; omega
          clear hP hQ
          clear v1 v2
          go_wp2_with fail
          refine (alive_any _).mono ?_
          rintro e4 w4 ⟨rfl, hb⟩
          have HB4 := Lib.hid (bwStep HB3.out hb)
          clear hb
          go_wp2
          go_ret
          exact ⟨rfl, HB4.out⟩
set_option maxRecDepth 100000 in
set_option maxHeartbeats 4000000 in
theorem law_walk (A : Option Addr) (n c : Nat) (b : List Bool) (size : Int) (w : World) (hp : SR vB false w A n c b) (_ : -9223372036854775808 ≤ size ∧ size ≤ 9223372036854775807) :
    Calls Tryd.prog 7 #[.slice A n c, .int .i64 size] w fun e w' => e = .returned (.bool true) ∧ Below w.heap.size w w' := by
  have hn63 : n ≤ 9223372036854775807 := by have := hp.hm; have := hp.hc; unfold maxLen at *; omega
  by_cases hn : n ≤ 2000
  · by_cases h1 : size < 2
    · have HF : Hid (stuffRes b size = ([], 3)) := by show _ = _; unfold stuffRes; rw [if_pos (.inl h1)]
      have HP := Lib.hid hp
      have d1 : decide ((2000 : Int) < (n : Int)) = false := by simp; omega
      have d2 : decide (size < 2) = true := by simp; omega
      clear hp
      go_enter Tryd.func7, Tryd.ntmps7
      go_wp2_with fail
      refine (Stuff_any A n c size b _ HP.out).mono ?_
      rintro e1 w1 ⟨v1', rfl, hs, hb⟩
      rw [HF.out] at hs
      rw [HF.out]
      obtain ⟨A1, n1, c1, rfl, hr⟩ := hs.int.parts
      have hn1 : n1 = 0 := hr.hn
      subst hn1
      have HB := Lib.hid hb
      clear hr hs hb
      go_wp2_with (go_at_call 11; refine (alive_any _).mono ?_; rintro e w8 ⟨rfl, hb8⟩; have HB8 := Lib.hid (bwStep HB.out hb8); clear hb8)
      go_ret
      exact ⟨rfl, HB8.out⟩
    · by_cases h2 : 12 < size
      · have HF : Hid (stuffRes b size = ([], 3)) := by show _ = _; unfold stuffRes; rw [if_pos (.inr h2)]
        have HP := Lib.hid hp
        have d1 : decide ((2000 : Int) < (n : Int)) = false := by simp; omega
        have d2 : decide (size < 2) = false := by simp; omega
        have d3 : decide (12 < size) = true := by simp; omega
        clear hp
        go_enter Tryd.func7, Tryd.ntmps7
        go_wp2_with fail
        refine (Stuff_any A n c size b _ HP.out).mono ?_
        rintro e1 w1 ⟨v1', rfl, hs, hb⟩
        rw [HF.out] at hs
        rw [HF.out]
        obtain ⟨A1, n1, c1, rfl, hr⟩ := hs.int.parts
        have hn1 : n1 = 0 := hr.hn
        subst hn1
        have HB := Lib.hid hb
        clear hr hs hb
        go_wp2_with (go_at_call 11; refine (alive_any _).mono ?_; rintro e w8 ⟨rfl, hb8⟩; have HB8 := Lib.hid (bwStep HB.out hb8); clear hb8)
        go_ret
        exact ⟨rfl, HB8.out⟩
      · obtain ⟨s, rfl⟩ := Int.eq_ofNat_of_zero_le (show 0 ≤ size by omega)
        exact yes_walk A n c b s w hp (by omega) (by omega) hn
  · have d1 : decide ((2000 : Int) < (n : Int)) = true := by simp; omega
    clear hp
    go_enter Tryd.func7, Tryd.ntmps7
    go_wp2_with (go_at_call 11; refine (alive_any _).mono ?_; rintro e w8 ⟨rfl, hb8⟩; have HB8 := Lib.hid hb8; clear hb8)
    go_ret
    exact ⟨rfl, HB8.out⟩
end Go.Proofs.YtplppbfnlfehnaaDoor.aztextStuffed
