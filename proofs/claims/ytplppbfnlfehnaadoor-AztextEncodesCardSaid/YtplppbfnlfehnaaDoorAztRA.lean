import Derived.Test.YtplppbfnlfehnaaDoorAztLB
namespace Go.Proofs.YtplppbfnlfehnaaDoor
open Go.RowKit Go.WideMaps Go.Maps
set_option linter.unusedVariables false
/-! the reference's stuffing -/
set_option maxRecDepth 100000 in
set_option maxHeartbeats 4000000 in
theorem RStuff_yes (A : Option Addr) (n c t : Nat) (b : List Bool) (w : World) (hb : SR vB false w A n c b) (ht3 : 1 ≤ t) (ht2 : t ≤ 11) (hn : n ≤ 1048576) :
    Calls Tryd.prog 19 #[.slice A n c, .int .i64 ((t : Int) + 1)] w fun e w' => ∃ v, e = .returned (.tuple #[v, .int .i64 0]) ∧ SG vN 0 w' v (stuffL b (t + 1)) ∧ Below w.heap.size w w' := by
  obtain ⟨i0, hi, hz0, hz1, hz2⟩ := info_parts intInfo
  have HB := Lib.hid hb
  have HN : Hid (n = b.length) := hb.hn
  have hsz : decide ((t : Int) + 1 < 2) = false := by simp; omega
  have hsz2 : decide ((12 : Int) < (t : Int) + 1) = false := by simp; omega
  have hnn : decide ((1048576 : Int) < (n : Int)) = false := by simp; omega
  clear hb
  go_enter Tryd.func19, Tryd.ntmps19
  go_wp2
  go_loopw [6, 7] (fun ov iv wr => ∃ (k f : Nat) (acc : List Nat), iv = .int .i64 k ∧ k ≤ n + 12 ∧ Hid (OG vN 3 w wr ov acc) ∧ Hid (acc.length ≤ k) ∧ Hid (acc ++ stuffFrom b (t + 1) f k = stuffL b (t + 1)) ∧ Hid (n ≤ f + k)) (fun _ iv _ => n + 12 - (intOf iv).toNat)
  case atStart => exact ⟨0, b.length, [], rfl, by omega, OG.start _ _, Nat.le_refl _, rfl, by show _ ≤ _; rw [HN.out]; omega⟩
  case round =>
    obtain ⟨k, f, acc, rfl, hk, hO, hL, hE, hF⟩ := hrel
    by_cases hlt : k < n
    · go_wp2
      obtain ⟨wo, rfl⟩ : ∃ wo : World, wo = wr := ⟨_, rfl⟩
      go_loopw [8, 9] (fun vv kv wr => ∃ j x : Nat, j ≤ t ∧ x ≤ 4096 ∧ kv = .int .i64 ((k : Int) + (j : Int)) ∧ vv = .int .i64 x ∧ Hid (Abv wo wr) ∧ Hid (x = sfV b k j)) (fun _ kv _ => k + t - (intOf kv).toNat)
      case atStart => exact ⟨0, 0, Nat.zero_le _, by omega, by simp, rfl, Below.refl _ _, rfl⟩
      case round =>
        obtain ⟨j, x, hj, hx, rfl, rfl, hw, HX⟩ := hrel
        have HO := Lib.hid (hO.out.below hw.out)
        by_cases hlt2 : j < t
        · have hy := bitN_le b (k + j)
          have HY : Hid (2 * x + bitN b (k + j) = sfV b k (j + 1)) := by
            show _ = _
            rw [HX.out]; rfl
          have hx2 : 2 * x + bitN b (k + j) ≤ 4096 := by
            rw [HY.out]
            have := sfV_lt b k (j + 1)
            have := pow_lt13 (s := j + 1) (by omega)
            omega
          by_cases hkn : k + j < n
          · obtain ⟨ad, rfl, _, hcs⟩ := (HB.out.below HO.out.B).rd (by rw [← HN.out]; omega)
            have hx1 := hcs (k + j) (by rw [← HN.out]; exact hkn)
            have HYB : Hid (bitN b (k + j) = if b.getD (k + j) false then 1 else 0) := by
              show _ = _
              unfold bitN
              cases hq : b.getD (k + j) false with
              | true => rw [if_neg (by simp)]; rfl
              | false => rw [if_pos ⟨by rw [← HN.out]; exact hkn, rfl⟩]; rfl
            clear hcs
            generalize b.getD (k + j) false = y at *
            have d1 : decide ((n : Int) ≤ (k : Int) + (j : Int)) = false := by simp; omega
            have HYY : Hid (2 * x + (if y then 1 else 0) = sfV b k (j + 1)) := by show _ = _; rw [← HY.out, HYB.out]
            rw [HYB.out] at hx2
            clear HYB HY hy
            cases y with
            | true =>
              simp only [if_true] at hx2
              go_wp2
              exact ⟨⟨j + 1, 2 * x + 1, by omega, hx2, by go_num, by go_num, hw.out, HYY.out⟩, by simp [intOf]; omega⟩
            | false =>
              go_wp2
              exact ⟨⟨j + 1, 2 * x, by omega, by simpa using hx2, by go_num, by go_num, hw.out, HYY.out⟩, by simp [intOf]; omega⟩
          · have d1 : decide ((n : Int) ≤ (k : Int) + (j : Int)) = true := by simp; omega
            have HYB : Hid (bitN b (k + j) = 1) := by
              show _ = _
              unfold bitN
              rw [if_neg (by rw [← HN.out]; omega)]
            have HYY : Hid (2 * x + 1 = sfV b k (j + 1)) := by show _ = _; rw [← HY.out, HYB.out]
            rw [HYB.out] at hx2
            clear HYB HY hy
            go_wp2
            exact ⟨⟨j + 1, 2 * x + 1, by omega, hx2, by go_num, by go_num, hw.out, HYY.out⟩, by simp [intOf]; omega⟩
        · obtain rfl : j = t := by omega
          have HAP : Hid (∃ f', stuffFrom b (j + 1) f k = (sfW b (j + 1) k).1 :: stuffFrom b (j + 1) f' (sfW b (j + 1) k).2 ∧ b.length ≤ f' + (sfW b (j + 1) k).2) := stuff_step b (j + 1) f k (by omega) (by rw [← HN.out]; exact hlt) (by rw [← HN.out]; exact hF.out)
          have HLL : Hid (acc.length ≤ 1048577) := by have := hL.out; show _ ≤ _; omega
          by_cases hx0 : x = 0
          · subst hx0
            have HWW : Hid (sfW b (j + 1) k = (1, k + j)) := by
              show _ = _
              unfold sfW
              rw [Nat.add_sub_cancel, ← HX.out, if_pos rfl]
            clear hx hj hlt2
            go_wp2_with (at_builtin; refine wpList_append_G (f := vN) (d := 0) oneN rfl _ _ _ rfl w.heap.size 3 i0 _ 8 Tryd.underlying35 hi hz0 hz1 hz2 rfl _ acc.length acc rfl ((ownsRow_below HO.out.O (Below.refl _ _)).alloc _) (some ⟨wr.heap.size, 0, none⟩) 1 1 [1] rfl rfl (RG.one _ _ _ _ rfl) (by unfold maxLen; have := HLL.out; omega) (by have := HLL.out; omega) (by have := HO.out.B.size; simp; omega) ?_; intro v5 w5 hown hg; have HP := Lib.hid (HO.out.grow (bwA _ _) hown hg); clear hown hg)
            obtain ⟨f', e1, e2⟩ := HAP.out
            rw [HWW.out] at e1 e2
            refine ⟨⟨k + j, f', acc ++ [1], by go_num, by omega, HP.out, by rw [List.length_append]; have := hL.out; show _ + 1 ≤ _; omega, by rw [List.append_assoc]; have h := hE.out; rw [e1] at h; exact h, by show n ≤ _; rw [HN.out]; exact e2⟩, ?_⟩
            simp [intOf]; omega
          · have hz : ((x : Int) == 0) = false := by rw [beq_eq_false_iff_ne]; omega
            have hpw := pow_wrap (j := j) (by omega)
            by_cases hx1 : x = 2 ^ j - 1
            · have z3 : ((x : Int) == wrap64 (wrap64 (2 ^ j) - 1)) = true := by rw [hpw, hx1]; simp
              have HWW : Hid (sfW b (j + 1) k = (2 * x, k + j)) := by
                show _ = _
                unfold sfW
                rw [Nat.add_sub_cancel, ← HX.out, if_neg hx0, if_pos hx1]
              obtain ⟨X, hX⟩ : ∃ X, X = 2 * x := ⟨_, rfl⟩
              have e2 : 2 * (x : Int) = (X : Int) := by omega
              rw [← hX] at HWW
              clear hpw hx1 hX
              go_wp2_with (at_builtin; refine wpList_append_G (f := vN) (d := 0) oneN rfl _ _ _ rfl w.heap.size 3 i0 _ 8 Tryd.underlying35 hi hz0 hz1 hz2 rfl _ acc.length acc rfl ((ownsRow_below HO.out.O (Below.refl _ _)).alloc _) (some ⟨wr.heap.size, 0, none⟩) 1 1 [X] rfl rfl (RG.one _ _ _ _ rfl) (by unfold maxLen; have := HLL.out; omega) (by have := HLL.out; omega) (by have := HO.out.B.size; simp; omega) ?_; intro v5 w5 hown hg; have HP := Lib.hid (HO.out.grow (bwA _ _) hown hg); clear hown hg)
              obtain ⟨f', e1, e3⟩ := HAP.out
              rw [HWW.out] at e1 e3
              refine ⟨⟨k + j, f', acc ++ [X], by go_num, by omega, HP.out, by rw [List.length_append]; have := hL.out; show _ + 1 ≤ _; omega, by rw [List.append_assoc]; have h := hE.out; rw [e1] at h; exact h, by show n ≤ _; rw [HN.out]; exact e3⟩, ?_⟩
              simp [intOf]; omega
            · have z3 : ((x : Int) == wrap64 (wrap64 (2 ^ j) - 1)) = false := by rw [hpw, beq_eq_false_iff_ne]; omega
              have HWW0 : Hid (sfW b (j + 1) k = (2 * x + bitN b (k + j), k + j + 1)) := by
                show _ = _
                unfold sfW
                rw [Nat.add_sub_cancel, ← HX.out, if_neg hx0, if_neg hx1]; rfl
              clear hpw hx1
              have ek : (k : Int) + ((j : Int) + 1) - 1 = (k : Int) + (j : Int) := by omega
              by_cases hkn : k + j < n
              · obtain ⟨ad, rfl, _, hcs⟩ := (HB.out.below HO.out.B).rd (by rw [← HN.out]; omega)
                have hx1 := hcs (k + j) (by rw [← HN.out]; exact hkn)
                have HYB : Hid (bitN b (k + j) = if b.getD (k + j) false then 1 else 0) := by
                  show _ = _
                  unfold bitN
                  cases hq : b.getD (k + j) false with
                  | true => rw [if_neg (by simp)]; rfl
                  | false => rw [if_pos ⟨by rw [← HN.out]; exact hkn, rfl⟩]; rfl
                clear hcs
                generalize b.getD (k + j) false = y at *
                have d1 : decide ((n : Int) ≤ (k : Int) + (j : Int)) = false := by simp; omega
                cases y with
                | true =>
                  obtain ⟨X, hX⟩ : ∃ X, X = 2 * x + 1 := ⟨_, rfl⟩
                  have e2 : 2 * (x : Int) + 1 = (X : Int) := by omega
                  have HWW : Hid (sfW b (j + 1) k = (X, k + j + 1)) := by show _ = _; rw [HWW0.out, HYB.out, hX]; rfl
                  clear hX HWW0 HYB
                  go_wp2_with (at_builtin; refine wpList_append_G (f := vN) (d := 0) oneN rfl _ _ _ rfl w.heap.size 3 i0 _ 8 Tryd.underlying35 hi hz0 hz1 hz2 rfl _ acc.length acc rfl ((ownsRow_below HO.out.O (Below.refl _ _)).alloc _) (some ⟨wr.heap.size, 0, none⟩) 1 1 [X] rfl rfl (RG.one _ _ _ _ rfl) (by unfold maxLen; have := HLL.out; omega) (by have := HLL.out; omega) (by have := HO.out.B.size; simp; omega) ?_; intro v5 w5 hown hg; have HP := Lib.hid (HO.out.grow (bwA _ _) hown hg); clear hown hg)
                  obtain ⟨f', e1, e3⟩ := HAP.out
                  rw [HWW.out] at e1 e3
                  refine ⟨⟨k + j + 1, f', acc ++ [X], by go_num, by omega, HP.out, by rw [List.length_append]; have := hL.out; show _ + 1 ≤ _; omega, by rw [List.append_assoc]; have h := hE.out; rw [e1] at h; exact h, by show n ≤ _; rw [HN.out]; exact e3⟩, ?_⟩
                  simp [intOf]; omega
                | false =>
                  obtain ⟨X, hX⟩ : ∃ X, X = 2 * x := ⟨_, rfl⟩
                  have e2 : 2 * (x : Int) = (X : Int) := by omega
                  have HWW : Hid (sfW b (j + 1) k = (X, k + j + 1)) := by show _ = _; rw [HWW0.out, HYB.out, hX]; rfl
                  clear hX HWW0 HYB
                  go_wp2_with (at_builtin; refine wpList_append_G (f := vN) (d := 0) oneN rfl _ _ _ rfl w.heap.size 3 i0 _ 8 Tryd.underlying35 hi hz0 hz1 hz2 rfl _ acc.length acc rfl ((ownsRow_below HO.out.O (Below.refl _ _)).alloc _) (some ⟨wr.heap.size, 0, none⟩) 1 1 [X] rfl rfl (RG.one _ _ _ _ rfl) (by unfold maxLen; have := HLL.out; omega) (by have := HLL.out; omega) (by have := HO.out.B.size; simp; omega) ?_; intro v5 w5 hown hg; have HP := Lib.hid (HO.out.grow (bwA _ _) hown hg); clear hown hg)
                  obtain ⟨f', e1, e3⟩ := HAP.out
                  rw [HWW.out] at e1 e3
                  refine ⟨⟨k + j + 1, f', acc ++ [X], by go_num, by omega, HP.out, by rw [List.length_append]; have := hL.out; show _ + 1 ≤ _; omega, by rw [List.append_assoc]; have h := hE.out; rw [e1] at h; exact h, by show n ≤ _; rw [HN.out]; exact e3⟩, ?_⟩
                  simp [intOf]; omega
              · have d1 : decide ((n : Int) ≤ (k : Int) + (j : Int)) = true := by simp; omega
                have HYB : Hid (bitN b (k + j) = 1) := by
                  show _ = _
                  unfold bitN
                  rw [if_neg (by rw [← HN.out]; omega)]
                obtain ⟨X, hX⟩ : ∃ X, X = 2 * x + 1 := ⟨_, rfl⟩
                have e2 : 2 * (x : Int) + 1 = (X : Int) := by omega
                have HWW : Hid (sfW b (j + 1) k = (X, k + j + 1)) := by show _ = _; rw [HWW0.out, HYB.out, hX]
                clear hX HWW0 HYB
                go_wp2_with (at_builtin; refine wpList_append_G (f := vN) (d := 0) oneN rfl _ _ _ rfl w.heap.size 3 i0 _ 8 Tryd.underlying35 hi hz0 hz1 hz2 rfl _ acc.length acc rfl ((ownsRow_below HO.out.O (Below.refl _ _)).alloc _) (some ⟨wr.heap.size, 0, none⟩) 1 1 [X] rfl rfl (RG.one _ _ _ _ rfl) (by unfold maxLen; have := HLL.out; omega) (by have := HLL.out; omega) (by have := HO.out.B.size; simp; omega) ?_; intro v5 w5 hown hg; have HP := Lib.hid (HO.out.grow (bwA _ _) hown hg); clear hown hg)
                obtain ⟨f', e1, e3⟩ := HAP.out
                rw [HWW.out] at e1 e3
                refine ⟨⟨k + j + 1, f', acc ++ [X], by go_num, by omega, HP.out, by rw [List.length_append]; have := hL.out; show _ + 1 ≤ _; omega, by rw [List.append_assoc]; have h := hE.out; rw [e1] at h; exact h, by show n ≤ _; rw [HN.out]; exact e3⟩, ?_⟩
                simp [intOf]; omega
    · have HE : Hid (acc = stuffL b (t + 1)) := by
        have h := hE.out
        rw [stuff_end b (t + 1) f k (by rw [← HN.out]; omega), List.append_nil] at h
        exact h
      go_wp2
      go_ret2
      refine ⟨_, rfl, ?_, hO.out.B⟩
      rw [← HE.out]
      exact hO.out.sg
set_option maxRecDepth 100000 in
set_option maxHeartbeats 1000000 in
theorem RStuff_any (A : Option Addr) (n c : Nat) (size : Int) (b : List Bool) (w : World) (hb : SR vB false w A n c b) :
    Calls Tryd.prog 19 #[.slice A n c, .int .i64 size] w (RT vN 0 w (stuffRes b size)) := by
  have hn : n = b.length := hb.hn
  have hn63 : n ≤ 9223372036854775807 := by have := hb.hm; have := hb.hc; unfold maxLen at *; omega
  by_cases h1 : size < 2
  · have HF : Hid (stuffRes b size = ([], 3)) := by show _ = _; unfold stuffRes; rw [if_pos (.inl h1)]
    clear hb hn
    go_enter Tryd.func19, Tryd.ntmps19
    go_wp2
    go_ret2
    exact RT.mk HF.out (SG.nil_ _) (Below.refl _ _)
  by_cases h2 : 12 < size
  · have HF : Hid (stuffRes b size = ([], 3)) := by show _ = _; unfold stuffRes; rw [if_pos (.inr h2)]
    clear hb hn
    go_enter Tryd.func19, Tryd.ntmps19
    go_wp2
    go_ret2
    exact RT.mk HF.out (SG.nil_ _) (Below.refl _ _)
  by_cases h3 : n ≤ 1048576
  · obtain ⟨t, ht⟩ : ∃ t : Nat, size = (t : Int) + 1 := ⟨size.toNat - 1, by omega⟩
    have HF : stuffRes b size = (stuffL b (t + 1), 0) := by
      unfold stuffRes
      rw [if_neg (by omega), if_neg (by omega), ht]
      rfl
    rw [HF, ht]
    exact RStuff_yes A n c t b w hb (by omega) (by omega) h3
  · have HF : Hid (stuffRes b size = ([], 4)) := by show _ = _; unfold stuffRes; rw [if_neg (by omega), if_pos (by omega)]
    have hd : decide ((1048576 : Int) < (n : Int)) = true := by simp; omega
    clear hb hn
    go_enter Tryd.func19, Tryd.ntmps19
    go_wp2
    go_ret2
    exact RT.mk HF.out (SG.nil_ _) (Below.refl _ _)
set_option maxRecDepth 100000 in
set_option maxHeartbeats 2000000 in
theorem RAppend_any (A : Option Addr) (L c : Nat) (b : List Bool) (v n : Nat) (w : World) (hb : SR vB false w A L c b) (hv : v ≤ 1000000000000) (hn : n ≤ 62) (hl : L + n ≤ 1048576) :
    Calls Tryd.prog 29 #[.slice A L c, .int .i64 (v : Int), .int .i64 (n : Int)] w (RT vB false w (b ++ lowB v n, 0)) := by
  obtain ⟨i0, hi, hz0, hz1, hz2⟩ := info_parts boolInfo
  have HB := Lib.hid hb
  have d0 : decide ((n : Int) < 0) = false := by simp
  have d1 : decide ((62 : Int) < (n : Int)) = false := by simp; omega
  have d2 : decide (1048576 - (n : Int) < (L : Int)) = false := by simp; omega
  clear hb
  go_enter Tryd.func29, Tryd.ntmps29
  go_wp2_with (at_builtin; refine wpList_append_G (f := vB) (d := false) oneB rfl _ _ _ rfl w.heap.size 4 i0 _ 1 Tryd.underlying24 hi hz0 hz1 hz2 rfl _ 0 [] rfl (World.ownsRow_nil _ _ _ _) A L c b rfl HB.out.hn HB.out.rd (by unfold maxLen; omega) (by omega) (Nat.le_refl _) ?_; intro v5 w5 hown hg; have HB5 : Hid (Below w.heap.size w w5) := (Below.refl _ _).grown hg (Nat.le_refl _) (fun q hq => by cases hq); have HO5 : Hid (w5.ownsRow w.heap.size 4 1 v5 b.length (b.map vB)) := (by have h := hown; rw [Nat.zero_add, HB.out.hn] at h; exact h); clear hown hg)
  go_loopw [8, 9] (fun ov iv wr => ∃ (k : Nat) (j : Int), k ≤ n ∧ iv = .int .i64 j ∧ Hid (j = (n : Int) - 1 - k) ∧ Hid (Below w.heap.size w wr) ∧ Hid (wr.ownsRow w.heap.size 4 1 ov (b ++ lowF v n k).length ((b ++ lowF v n k).map vB))) (fun _ iv _ => (intOf iv + 1).toNat)
  case atStart => exact ⟨0, _, Nat.zero_le _, rfl, by show _ = _; omega, HB5.out, by show World.ownsRow _ _ _ _ _ _ _; rw [show lowF v n 0 = [] from rfl, List.append_nil]; exact HO5.out⟩
  case round =>
    obtain ⟨k, j, hk, rfl, hj, hW, hO⟩ := hrel
    by_cases hlt : k < n
    · obtain ⟨i, hi1⟩ : ∃ i, i = n - 1 - k := ⟨_, rfl⟩
      obtain rfl : j = (i : Int) := by have := hj.out; omega
      have HI := Lib.hid hi1
      have hi2 : i ≤ 61 := by omega
      clear hi1
      have hbit := bit_fact v i hv
      have HST : Hid (lowF v n (k + 1) = lowF v n k ++ [bitV v i]) := by show _ = _; rw [HI.out]; rfl
      have HLE : Hid ((b ++ lowF v n k).length ≤ 100000062) := by show _ ≤ _; rw [List.length_append, lowF_length, ← HB.out.hn]; omega
      generalize bitV v i = y at *
      have HSZ : Hid (w.heap.size ≤ wr.heap.size) := hW.out.size
      go_wp2_with (at_builtin; refine wpList_append_G (f := vB) (d := false) oneB rfl _ _ _ rfl w.heap.size 4 i0 _ 1 Tryd.underlying24 hi hz0 hz1 hz2 rfl _ _ (b ++ lowF v n k) rfl (ownsRow_alloc' hO.out _) (some ⟨wr.heap.size, 0, none⟩) 1 1 [y] rfl rfl (RG.one _ _ _ _ rfl) (by unfold maxLen; have := HLE.out; omega) (by have := HLE.out; omega) (by have := HSZ.out; simp; omega) ?_; intro v6 w6 hown hg; have HB6 : Hid (Below w.heap.size w w6) := ((hW.out.alloc HSZ.out _).grown hg (by have := HSZ.out; simp; omega) (fun q hq => (hO.out.lt q hq).1)); have HO6 := Lib.hid hown; clear hown hg)
      exact ⟨⟨k + 1, _, by omega, rfl, by have := HI.out; show _ = _; omega, HB6.out, by
        show World.ownsRow _ _ _ _ _ _ _
        rw [HST.out, ← List.append_assoc]
        have e1 : (b ++ lowF v n k ++ [y]).length = (b ++ lowF v n k).length + 1 := List.length_append
        rw [e1]; exact HO6.out⟩, by simp [intOf]⟩
    · obtain rfl : k = n := by omega
      have hj0 : decide ((0 : Int) ≤ j) = false := by have := hj.out; simp; omega
      go_wp2
      go_ret2
      exact RT.mk rfl (SG.of_own hO.out) hW.out
end Go.Proofs.YtplppbfnlfehnaaDoor
