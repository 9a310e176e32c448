import Derived.Test.YtplppbfnlfehnaaDoorAztB
namespace Go.Proofs.YtplppbfnlfehnaaDoor
open Go.RowKit
set_option linter.unusedVariables false
/-! stuffing -/
abbrev vN : Nat → Value := fun n => Value.int .i64 (n : Int)
theorem oneN (x : Nat) : (vN x).oneCell' = true := rfl
theorem bitN_le (b : List Bool) (k : Nat) : bitN b k ≤ 1 := by unfold bitN; split <;> omega
def sfV (b : List Bool) (k : Nat) : Nat → Nat
  | 0 => 0
  | j + 1 => 2 * sfV b k j + bitN b (k + j)
theorem sfV_lt (b : List Bool) (k j : Nat) : sfV b k j < 2 ^ j := by
  induction j with
  | zero => simp [sfV]
  | succ j ih =>
    have := bitN_le b (k + j)
    show 2 * sfV b k j + bitN b (k + j) < 2 ^ (j + 1)
    rw [Nat.pow_succ]; omega
/-- the word at a place, and the next place -/
def sfW (b : List Bool) (s k : Nat) : Nat × Nat :=
  if sfV b k (s - 1) = 0 then (1, k + (s - 1)) else if sfV b k (s - 1) = 2 ^ (s - 1) - 1 then (2 * sfV b k (s - 1), k + (s - 1)) else (2 * sfV b k (s - 1) + bitN b (k + (s - 1)), k + s)
def stuffFrom (b : List Bool) (s : Nat) : Nat → Nat → List Nat
  | 0, _ => []
  | f + 1, k => if k < b.length then (sfW b s k).1 :: stuffFrom b s f (sfW b s k).2 else []
def stuffL (b : List Bool) (s : Nat) : List Nat := stuffFrom b s b.length 0
theorem stuff_end (b : List Bool) (s f k : Nat) (h : b.length ≤ k) : stuffFrom b s f k = [] := by
  cases f with
  | zero => rfl
  | succ f => unfold stuffFrom; rw [if_neg (by omega)]
theorem stuff_step (b : List Bool) (s f k : Nat) (hs : 2 ≤ s) (h : k < b.length) (hf : b.length ≤ f + k) : ∃ f', stuffFrom b s f k = (sfW b s k).1 :: stuffFrom b s f' (sfW b s k).2 ∧ b.length ≤ f' + (sfW b s k).2 := by
  cases f with
  | zero => omega
  | succ f =>
    refine ⟨f, ?_, ?_⟩
    · show (if k < b.length then _ else _) = _
      rw [if_pos h]
    · have : k + 1 ≤ (sfW b s k).2 := by unfold sfW; split; · show k + 1 ≤ k + (s - 1); omega
                                         · split
                                           · show k + 1 ≤ k + (s - 1); omega
                                           · show k + 1 ≤ k + s; omega
      omega
theorem pow_lt13 {s : Nat} (h : s ≤ 12) : 2 ^ s ≤ 4096 := by
  have := Nat.pow_le_pow_right (n := 2) (by omega) h
  simpa using this
theorem pow_wrap {j : Nat} (h : j ≤ 12) : wrap64 (wrap64 ((2 : Int) ^ j) - 1) = ((2 ^ j - 1 : Nat) : Int) := by
  have h1 : (2 : Int) ^ j = ((2 ^ j : Nat) : Int) := by simp
  have h2 := pow_lt13 h
  have h3 : 1 ≤ 2 ^ j := Nat.one_le_two_pow
  rw [h1]
  have e1 : wrap64 ((2 ^ j : Nat) : Int) = ((2 ^ j : Nat) : Int) := by unfold wrap64; omega
  have e2 : wrap64 (((2 ^ j : Nat) : Int) - 1) = ((2 ^ j : Nat) : Int) - 1 := by unfold wrap64; omega
  rw [e1, e2]
  omega
set_option maxRecDepth 100000 in
set_option maxHeartbeats 4000000 in
theorem Stuff_yes (A : Option Addr) (n c s : Nat) (b : List Bool) (w : World) (hb : SR vB false w A n c b) (h1 : 2 ≤ s) (h2 : s ≤ 12) (hn : n ≤ 1048576) :
    Calls Tryd.prog 18 #[.slice A n c, .int .i64 s] w fun e w' => ∃ v, e = .returned (.tuple #[v, .int .i64 0]) ∧ SG vN 0 w' v (stuffL b s) ∧ Below w.heap.size w w' := by
  obtain ⟨i0, hi, hz0, hz1, hz2⟩ := info_parts intInfo
  have HB := Lib.hid hb
  have HN : Hid (n = b.length) := hb.hn
  obtain ⟨t, ht⟩ : ∃ t, t = s - 1 := ⟨_, rfl⟩
  have ht1 : ((s : Int) - 1) = (t : Int) := by omega
  have ht2 : t ≤ 11 := by omega
  have ht3 : 1 ≤ t := by omega
  have HT := Lib.hid ht
  have hsz : decide ((s : Int) < 2) = false := by simp; omega
  have hsz2 : decide ((12 : Int) < (s : Int)) = false := by simp; omega
  clear hb ht h1 h2
  go_enter Tryd.func18, Tryd.ntmps18
  go_wp2
  go_loopw [6, 7] (fun ov iv wr => ∃ (k f : Nat) (acc : List Nat), iv = .int .i64 k ∧ k ≤ n + 12 ∧ Hid (OG vN 3 w wr ov acc) ∧ Hid (acc.length ≤ k) ∧ Hid (acc ++ stuffFrom b s f k = stuffL b s) ∧ Hid (n ≤ f + k)) (fun _ iv _ => n + 12 - (intOf iv).toNat)
  case atStart => exact ⟨0, b.length, [], rfl, by omega, OG.start _ _, Nat.le_refl _, rfl, by show _ ≤ _; rw [HN.out]; omega⟩
  case round =>
    obtain ⟨k, f, acc, rfl, hk, hO, hL, hE, hF⟩ := hrel
    by_cases hlt : k < n
    · go_wp2
      obtain ⟨wo, rfl⟩ : ∃ wo : World, wo = wr := ⟨_, rfl⟩
      go_loopw [7, 8, 24] (fun av vv iv wr => ∃ j K x : Nat, j ≤ t ∧ K ≤ n + 12 ∧ x ≤ 4096 ∧ av = .int .i64 K ∧ vv = .int .i64 x ∧ iv = .int .i64 j ∧ Hid (Abv wo wr) ∧ Hid (K = k + j) ∧ Hid (x = sfV b k j)) (fun _ _ iv _ => t - (intOf iv).toNat)
      case atStart => exact ⟨0, k, 0, Nat.zero_le _, by omega, by omega, rfl, rfl, rfl, Below.refl _ _, rfl, rfl⟩
      case round =>
        obtain ⟨j, K, x, hj, hK, hx, rfl, rfl, rfl, hw, HK, HX⟩ := hrel
        have HO := Lib.hid (hO.out.below hw.out)
        by_cases hlt2 : j < t
        · have hy := bitN_le b K
          have HY : Hid (2 * x + bitN b K = sfV b k (j + 1)) := by
            show _ = _
            rw [HX.out, HK.out]; rfl
          have hx2 : 2 * x + bitN b K ≤ 4096 := by
            rw [HY.out]
            have := sfV_lt b k (j + 1)
            have := pow_lt13 (s := j + 1) (by omega)
            omega
          have HBA : Hid (Calls Tryd.prog 36 #[.slice A n c, .int .i64 K] wr fun e w' => e = .returned (.int .i64 ((bitN b K : Nat) : Int)) ∧ w' = wr) := bitAt_any A n c b K wr (HB.out.below HO.out.B) (by omega)
          generalize bitN b K = y at *
          go_wp2_with (go_at_call 36; refine HBA.out.mono ?_; rintro e w' ⟨rfl, rfl⟩)
          exact ⟨⟨j + 1, K + 1, 2 * x + y, by omega, by have := HK.out; omega, by omega, by go_num, by go_num, by go_num, hw.out, by rw [HK.out]; rfl, HY.out⟩, by simp [intOf]; omega⟩
        · obtain rfl : j = t := by omega
          have HST : Hid (x = sfV b k (s - 1)) := by show _ = _; rw [HX.out, HT.out]
          have HAP : Hid (∃ f', stuffFrom b s f k = (sfW b s k).1 :: stuffFrom b s f' (sfW b s k).2 ∧ b.length ≤ f' + (sfW b s k).2) := stuff_step b s f k (by have := HT.out; omega) (by rw [← HN.out]; exact hlt) (by rw [← HN.out]; exact hF.out)
          have HLL : Hid (acc.length ≤ 1048577) := by have := hL.out; show _ ≤ _; omega
          by_cases hx0 : x = 0
          · subst hx0
            have HWW : Hid (sfW b s k = (1, K)) := by
              show _ = _
              unfold sfW
              rw [← HST.out, if_pos rfl, HK.out, HT.out]
            clear hx hj hlt2
            go_wp2_with (at_builtin; refine wpList_append_G (f := vN) (d := 0) oneN rfl _ _ _ rfl w.heap.size 3 i0 _ 8 Tryd.underlying35 hi hz0 hz1 hz2 rfl _ acc.length acc rfl ((ownsRow_below HO.out.O (Below.refl _ _)).alloc _) (some ⟨wr.heap.size, 0, none⟩) 1 1 [1] rfl rfl (RG.one _ _ _ _ rfl) (by unfold maxLen; have := HLL.out; omega) (by have := HLL.out; omega) (by have := HO.out.B.size; simp; omega) ?_; intro v5 w5 hown hg; have HP := Lib.hid (HO.out.grow (bwA _ _) hown hg); clear hown hg)
            obtain ⟨f', e1, e2⟩ := HAP.out
            rw [HWW.out] at e1 e2
            refine ⟨⟨K, f', acc ++ [1], rfl, by omega, HP.out, by rw [List.length_append]; have := hL.out; have := HK.out; show _ + 1 ≤ K; omega, by rw [List.append_assoc]; have h := hE.out; rw [e1] at h; exact h, by show n ≤ _; rw [HN.out]; exact e2⟩, ?_⟩
            have := HK.out
            simp [intOf]; omega
          · have hz : ((x : Int) == 0) = false := by rw [beq_eq_false_iff_ne]; omega
            have hpw := pow_wrap (j := j) (by omega)
            by_cases hx1 : x = 2 ^ j - 1
            · have z3 : ((x : Int) == wrap64 (wrap64 (2 ^ j) - 1)) = true := by rw [hpw, hx1]; simp
              have HWW : Hid (sfW b s k = (2 * x, K)) := by
                show _ = _
                unfold sfW
                rw [← HST.out, if_neg hx0, ← HT.out, if_pos hx1, HK.out]
              obtain ⟨X, hX⟩ : ∃ X, X = 2 * x := ⟨_, rfl⟩
              have e2 : 2 * (x : Int) = (X : Int) := by omega
              rw [← hX] at HWW
              clear hpw hx1 hX
              go_wp2_with (at_builtin; refine wpList_append_G (f := vN) (d := 0) oneN rfl _ _ _ rfl w.heap.size 3 i0 _ 8 Tryd.underlying35 hi hz0 hz1 hz2 rfl _ acc.length acc rfl ((ownsRow_below HO.out.O (Below.refl _ _)).alloc _) (some ⟨wr.heap.size, 0, none⟩) 1 1 [X] rfl rfl (RG.one _ _ _ _ rfl) (by unfold maxLen; have := HLL.out; omega) (by have := HLL.out; omega) (by have := HO.out.B.size; simp; omega) ?_; intro v5 w5 hown hg; have HP := Lib.hid (HO.out.grow (bwA _ _) hown hg); clear hown hg)
              obtain ⟨f', e1, e3⟩ := HAP.out
              rw [HWW.out] at e1 e3
              refine ⟨⟨K, f', acc ++ [X], rfl, by have := HK.out; omega, HP.out, by rw [List.length_append]; have := hL.out; have := HK.out; show _ + 1 ≤ _; omega, by rw [List.append_assoc]; have h := hE.out; rw [e1] at h; exact h, by show n ≤ _; rw [HN.out]; exact e3⟩, ?_⟩
              have := HK.out
              simp [intOf]; omega
            · have z3 : ((x : Int) == wrap64 (wrap64 (2 ^ j) - 1)) = false := by rw [hpw, beq_eq_false_iff_ne]; omega
              have HWW : Hid (sfW b s k = (2 * x + bitN b K, K + 1)) := by
                show _ = _
                unfold sfW
                rw [← HST.out, if_neg hx0, ← HT.out, if_neg hx1, ← HK.out]
                have := HT.out
                have := HK.out
                congr 1
                omega
              have hy := bitN_le b K
              have HBA : Hid (Calls Tryd.prog 36 #[.slice A n c, .int .i64 K] wr fun e w' => e = .returned (.int .i64 ((bitN b K : Nat) : Int)) ∧ w' = wr) := bitAt_any A n c b K wr (HB.out.below HO.out.B) (by omega)
              clear hpw hx1
              generalize bitN b K = y at *
              obtain ⟨X, hX⟩ : ∃ X, X = 2 * x + y := ⟨_, rfl⟩
              have e2 : 2 * (x : Int) + (y : Int) = (X : Int) := by omega
              rw [← hX] at HWW
              clear hX
              go_wp2_with (first
                | (go_at_call 36; refine HBA.out.mono ?_; rintro e w' ⟨rfl, hw'⟩; rw [hw']; clear hw')
                | (at_builtin; refine wpList_append_G (f := vN) (d := 0) oneN rfl _ _ _ rfl w.heap.size 3 i0 _ 8 Tryd.underlying35 hi hz0 hz1 hz2 rfl _ acc.length acc rfl ((ownsRow_below HO.out.O (Below.refl _ _)).alloc _) (some ⟨wr.heap.size, 0, none⟩) 1 1 [X] rfl rfl (RG.one _ _ _ _ rfl) (by unfold maxLen; have := HLL.out; omega) (by have := HLL.out; omega) (by have := HO.out.B.size; simp; omega) ?_; intro v5 w5 hown hg; have HP := Lib.hid (HO.out.grow (bwA _ _) hown hg); clear hown hg))
              obtain ⟨f', e1, e3⟩ := HAP.out
              rw [HWW.out] at e1 e3
              refine ⟨⟨K + 1, f', acc ++ [X], by go_num, by have := HK.out; omega, HP.out, by rw [List.length_append]; have := hL.out; have := HK.out; show _ + 1 ≤ _; omega, by rw [List.append_assoc]; have h := hE.out; rw [e1] at h; exact h, by show n ≤ _; rw [HN.out]; exact e3⟩, ?_⟩
              have := HK.out
              simp [intOf]; omega
    · have HE : Hid (acc = stuffL b s) := by
        have h := hE.out
        rw [stuff_end b s f k (by rw [← HN.out]; omega), List.append_nil] at h
        exact h
      go_wp2
      go_ret2
      exact ⟨_, rfl, by rw [← HE.out]; exact hO.out.sg, hO.out.B⟩
end Go.Proofs.YtplppbfnlfehnaaDoor
