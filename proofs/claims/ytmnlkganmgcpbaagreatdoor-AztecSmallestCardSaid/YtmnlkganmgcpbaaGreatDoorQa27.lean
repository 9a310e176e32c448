import Derived.Test.YtmnlkganmgcpbaaGreatDoorQa26
namespace Go.Proofs.YtmnlkganmgcpbaaGreatDoor
open Go.RowKit
set_option linter.unusedVariables false
set_option linter.unusedSectionVars false
set_option linter.unusedSimpArgs false
set_option maxHeartbeats 1000000 in
theorem rposition_any (L i : Nat) (c : Bool) (w : World) (h : L ≤ 32) (hi : i < baseN L c) : Calls Tryz.prog 139 #[.int .i64 i, .int .i64 L, .bool c] w fun e w' => e = .returned (.int .i64 ((posN L c i : Nat) : Int)) ∧ w' = w := by
  cases c with
  | true =>
    have HP : Hid (posN L true i = i) := by show _ = _; unfold posN; simp
    clear hi
    go_enter Tryz.func139, Tryz.ntmps139
    go_wp2
    go_ret; exact ⟨by rw [HP.out]; rfl, rfl⟩
  | false =>
    have HBA : Hid (∀ W, Calls Tryz.prog 98 #[.int .i64 L, .bool false] W fun e w' => e = .returned (.int .i64 ((baseN L false : Nat) : Int)) ∧ w' = W) := fun W => rbase_any L false W h
    have HSD : Hid (∀ W, Calls Tryz.prog 48 #[.int .i64 L, .bool false] W fun e w' => e = .returned (.int .i64 ((sideN L false : Nat) : Int)) ∧ w' = W) := fun W => rside_any L false W h
    have HBL := Lib.hid (base_le (c := false) h)
    have HSL := Lib.hid (side_le (c := false) h)
    by_cases hlt : i < baseN L false / 2
    · have HP := Lib.hid (posN_lo h hlt)
      generalize posN L false i = p at *
      generalize baseN L false = B at *
      generalize sideN L false = S at *
      obtain ⟨b1, b2⟩ := HBL.out
      obtain ⟨s1, s2⟩ := HSL.out
      obtain ⟨hh, hhh⟩ : ∃ hh, hh = B / 2 := ⟨_, rfl⟩
      have e1 : (B : Int) / 2 = (hh : Int) := by omega
      have hlt2 : (i : Int) < (hh : Int) := by omega
      obtain ⟨j, hj⟩ : ∃ j, j = hh - 1 - i := ⟨_, rfl⟩
      have e2 : (hh : Int) - 1 - (i : Int) = (j : Int) := by omega
      obtain ⟨q, hq⟩ : ∃ q, q = j / 15 := ⟨_, rfl⟩
      have e3 : (j : Int) / 15 = (q : Int) := by omega
      obtain ⟨t, ht⟩ : ∃ t, t = (S - 1) / 2 := ⟨_, rfl⟩
      have e4 : ((S : Int) - 1) / 2 = (t : Int) := by omega
      have HP2 : Hid ((t : Int) - 1 - (j : Int) - (q : Int) = (p : Int)) := by show _ = _; rw [HP.out, e1, e2, e3, e4]
      have hj9 : j ≤ 200 := by omega
      have hq9 : q ≤ 200 := by omega
      have ht9 : t ≤ 200 := by omega
      clear hhh hj hq ht hlt hi
      go_enter Tryz.func139, Tryz.ntmps139
      go_wp2_with (first
        | (go_at_call 48; refine (HSD.out _).mono ?_; rintro e w1 ⟨rfl, hw1⟩; rw [hw1]; clear hw1)
        | (go_at_call 98; refine (HBA.out _).mono ?_; rintro e w1 ⟨rfl, hw1⟩; rw [hw1]; clear hw1))
      go_ret; exact ⟨ret_int HP2.out, rfl⟩
    · have HP := Lib.hid (posN_hi h hlt)
      generalize posN L false i = p at *
      generalize baseN L false = B at *
      generalize sideN L false = S at *
      obtain ⟨b1, b2⟩ := HBL.out
      obtain ⟨s1, s2⟩ := HSL.out
      obtain ⟨hh, hhh⟩ : ∃ hh, hh = B / 2 := ⟨_, rfl⟩
      have e1 : (B : Int) / 2 = (hh : Int) := by omega
      have hlt2 : ¬ ((i : Int) < (hh : Int)) := by omega
      obtain ⟨j, hj⟩ : ∃ j, j = i - hh := ⟨_, rfl⟩
      have e2 : (i : Int) - (hh : Int) = (j : Int) := by omega
      obtain ⟨q, hq⟩ : ∃ q, q = j / 15 := ⟨_, rfl⟩
      have e3 : (j : Int) / 15 = (q : Int) := by omega
      obtain ⟨t, ht⟩ : ∃ t, t = (S - 1) / 2 := ⟨_, rfl⟩
      have e4 : ((S : Int) - 1) / 2 = (t : Int) := by omega
      have HP2 : Hid ((t : Int) + 1 + (j : Int) + (q : Int) = (p : Int)) := by show _ = _; rw [HP.out, e1, e2, e3, e4]
      have hj9 : j ≤ 200 := by omega
      have hq9 : q ≤ 200 := by omega
      have ht9 : t ≤ 200 := by omega
      clear hhh hj hq ht hlt hi
      go_enter Tryz.func139, Tryz.ntmps139
      go_wp2_with (first
        | (go_at_call 48; refine (HSD.out _).mono ?_; rintro e w1 ⟨rfl, hw1⟩; rw [hw1]; clear hw1)
        | (go_at_call 98; refine (HBA.out _).mono ?_; rintro e w1 ⟨rfl, hw1⟩; rw [hw1]; clear hw1))
      go_ret; exact ⟨ret_int HP2.out, rfl⟩
theorem rmodule_any (L x y : Nat) (c : Bool) (w : World) (h : L ≤ 32) (hx : x < baseN L c) (hy : y < baseN L c) : Calls Tryz.prog 99 #[.int .i64 x, .int .i64 y, .int .i64 L, .bool c] w fun e w' => e = .returned (.agg #[.int .i64 (((mdN L c (x, y)).1 : Nat) : Int), .int .i64 (((mdN L c (x, y)).2 : Nat) : Int)]) ∧ Below w.heap.size w w' := by
  have HX : Hid (∀ W, Calls Tryz.prog 139 #[.int .i64 x, .int .i64 L, .bool c] W fun e w' => e = .returned (.int .i64 (((mdN L c (x, y)).1 : Nat) : Int)) ∧ w' = W) := fun W => rposition_any L x c W h hx
  have HY : Hid (∀ W, Calls Tryz.prog 139 #[.int .i64 y, .int .i64 L, .bool c] W fun e w' => e = .returned (.int .i64 (((mdN L c (x, y)).2 : Nat) : Int)) ∧ w' = W) := fun W => rposition_any L y c W h hy
  generalize mdN L c (x, y) = p at *
  clear hx hy
  go_enter Tryz.func99, Tryz.ntmps99
  go_wp2_with (first
    | (go_at_call 139; (with_reducible refine (HX.out _).mono ?_); rintro e w1 ⟨rfl, hw1⟩; rw [hw1]; clear hw1)
    | (go_at_call 139; (with_reducible refine (HY.out _).mono ?_); rintro e w1 ⟨rfl, hw1⟩; rw [hw1]; clear hw1))
  exact bodyPost_ret (v := .agg #[.int .i64 (p.1 : Int), .int .i64 (p.2 : Int)]) (by simp [results, Tryz.results99, go_sem]) rfl ⟨rfl, bwA _ _⟩
theorem bx_lt {L i s j k : Nat} {c : Bool} (hL : L ≤ 32) (hi : i < L) (hj : j < rN L c i) (hk : k < 2) : 2 * i + k < baseN L c ∧ 2 * i + j < baseN L c := by
  unfold rN at hj
  unfold baseN
  cases c <;> simp at hj ⊢ <;> omega
set_option maxRecDepth 100000 in
set_option maxHeartbeats 4000000 in
theorem rdataPath_any (L : Nat) (c : Bool) (w : World) (h : L ≤ 32) : Calls Tryz.prog 51 #[.int .i64 L, .bool c] w fun e w' => ∃ v, e = .returned v ∧ SP w' v (dataL L c) ∧ Below w.heap.size w w' := by
  have HBA : Hid (∀ W, Calls Tryz.prog 98 #[.int .i64 L, .bool c] W fun e w' => e = .returned (.int .i64 ((baseN L c : Nat) : Int)) ∧ w' = W) := fun W => rbase_any L c W h
  have HMD : Hid (∀ W x y, x < baseN L c → y < baseN L c → Calls Tryz.prog 99 #[.int .i64 ((x : Nat) : Int), .int .i64 ((y : Nat) : Int), .int .i64 L, .bool c] W fun e w' => e = .returned (.agg #[.int .i64 (((mdN L c (x, y)).1 : Nat) : Int), .int .i64 (((mdN L c (x, y)).2 : Nat) : Int)]) ∧ Below W.heap.size W w') := fun W x y hx hy => rmodule_any L x y c W h hx hy
  have HRN : Hid (∀ i, rN L c i = if c = true then 4 * (L - i) + 9 else 4 * (L - i) + 12) := fun i => rfl
  have HRL : Hid (∀ i, rN L c i ≤ 140) := fun i => rN_le h
  have HBX : Hid (∀ i j k, i < L → j < rN L c i → k < 2 → 2 * i + k < baseN L c ∧ 2 * i + j < baseN L c) := fun i j k => bx_lt (s := 0) h
  have HPT : Hid (∀ i s j k, ptN L c i s j k = mdN L c (if s = 0 then (2 * i + k, 2 * i + j) else if s = 1 then (2 * i + j, baseN L c - 1 - (2 * i + k)) else if s = 2 then (baseN L c - 1 - (2 * i + k), baseN L c - 1 - (2 * i + j)) else (baseN L c - 1 - (2 * i + j), 2 * i + k))) := fun i s j k => rfl
  have HBL := Lib.hid (base_le (c := c) h)
  have HK := Lib.hid (kL_succ L c)
  have HJ := Lib.hid (jL_succ L c)
  have HS := Lib.hid (sL_succ L c)
  have HI := Lib.hid (iL_succ L c)
  have HKL := Lib.hid (kL_length L c)
  have HJL := Lib.hid (jL_length L c)
  have HSL := Lib.hid (sL_length L c)
  have HIL : Hid (∀ i, (iL L c i).length ≤ i * 1120) := iL_le h
  have HD : Hid (dataL L c = iL L c L) := rfl
  generalize baseN L c = B at *
  obtain ⟨b1, b2⟩ := HBL.out
  obtain ⟨la, hla⟩ : ∃ la, la = B - 1 := ⟨_, rfl⟩
  have hla2 : (B : Int) - 1 = (la : Int) := by omega
  have HLA := Lib.hid hla
  have hla9 : la ≤ 141 := by omega
  clear hla
  cases c with
  | true =>
    go_enter Tryz.func51, Tryz.ntmps51
    go_wp2_with (go_at_call 98; refine (HBA.out _).mono ?_; rintro e w1 ⟨rfl, hw1⟩; rw [hw1]; clear hw1)
    clear hla2
    go_loopw [5, 7] (fun ov iv wr => ∃ i : Nat, i ≤ L ∧ iv = .int .i64 i ∧ Hid (OGP w wr ov (iL L true i))) (fun _ iv _ => L - (intOf iv).toNat)
    case atStart => exact ⟨0, Nat.zero_le _, rfl, OGP.start _⟩
    case round =>
      obtain ⟨i, hi, rfl, hO⟩ := hrel
      by_cases hlt : i < L
      · obtain ⟨d, hd⟩ : ∃ d, d = L - i := ⟨_, rfl⟩
        have hd2 : (L : Int) - (i : Int) = (d : Int) := by omega
        obtain ⟨r, hr⟩ : ∃ r, r = rN L true i := ⟨_, rfl⟩
        have hr9 : r ≤ 140 := by rw [hr]; exact HRL.out i
        have HRR := Lib.hid hr
        have hr2 : 4 * (d : Int) + 9 = (r : Int) := by have h1 := HRN.out i; simp at h1; rw [hr, h1, hd]; omega
        have hd9 : d ≤ 32 := by omega
        have HO2 : ∀ ov, Hid (OGP w wr ov (iL L true i)) → Hid (OGP w wr ov (iL L true i ++ sL L true i 0)) := fun ov h => by show OGP _ _ _ _; rw [show sL L true i 0 = [] from rfl, List.append_nil]; exact h.out
        have HO2 := HO2 _ hO
        clear hd hr hO
        go_wp2
        clear hr2 hd2
        obtain ⟨wo, rfl⟩ : ∃ wo : World, wo = wr := ⟨_, rfl⟩
        go_loopw [5, 9] (fun ov sv wr => ∃ s : Nat, s ≤ 4 ∧ sv = .int .i64 s ∧ Hid (OGP w wr ov (iL L true i ++ sL L true i s))) (fun _ sv _ => 4 - (intOf sv).toNat)
        case atStart => exact ⟨0, Nat.zero_le _, rfl, HO2⟩
        case round =>
          clear HO2
          obtain ⟨s, hs, rfl, hO2⟩ := hrel
          by_cases hlt2 : s < 4
          · have HO3 : ∀ ov, Hid (OGP w wr ov (iL L true i ++ sL L true i s)) → Hid (OGP w wr ov (iL L true i ++ sL L true i s ++ jL L true i s 0)) := fun ov h => by show OGP _ _ _ _; rw [show jL L true i s 0 = [] from rfl, List.append_nil]; exact h.out
            have HO3 := HO3 _ hO2
            clear hO2
            have hs4d : decide ((s : Int) < 4) = true := by simp; omega
            go_wp2
            obtain ⟨wo, rfl⟩ : ∃ wo : World, wo = wr := ⟨_, rfl⟩
            go_loopw [5, 10] (fun ov jv wr => ∃ j : Nat, j ≤ r ∧ jv = .int .i64 j ∧ Hid (OGP w wr ov (iL L true i ++ sL L true i s ++ jL L true i s j))) (fun _ jv _ => r - (intOf jv).toNat)
            case atStart => exact ⟨0, Nat.zero_le _, rfl, HO3⟩
            case round =>
              clear HO3
              obtain ⟨j, hj, rfl, hO3⟩ := hrel
              by_cases hlt3 : j < r
              · have HO4 : ∀ ov, Hid (OGP w wr ov (iL L true i ++ sL L true i s ++ jL L true i s j)) → Hid (OGP w wr ov (iL L true i ++ sL L true i s ++ jL L true i s j ++ kL L true i s j 0)) := fun ov h => by show OGP _ _ _ _; rw [show kL L true i s j 0 = [] from rfl, List.append_nil]; exact h.out
                have HO4 := HO4 _ hO3
                clear hO3
                go_wp2
                obtain ⟨wo, rfl⟩ : ∃ wo : World, wo = wr := ⟨_, rfl⟩
                go_loopw [5, 11] (fun ov kv wr => ∃ k : Nat, k ≤ 2 ∧ kv = .int .i64 k ∧ Hid (OGP w wr ov (iL L true i ++ sL L true i s ++ jL L true i s j ++ kL L true i s j k))) (fun _ kv _ => 2 - (intOf kv).toNat)
                case atStart => exact ⟨0, Nat.zero_le _, rfl, HO4⟩
                case round =>
                  clear HO4
                  obtain ⟨k, hk, rfl, hO4⟩ := hrel
                  by_cases hlt4 : k < 2
                  · obtain ⟨hb1, hb2⟩ := HBX.out i j k hlt (by rw [← HRR.out]; exact hlt3) hlt4
                    obtain ⟨ac, hac⟩ : ∃ ac, ac = 2 * i + k := ⟨_, rfl⟩
                    obtain ⟨al, hal⟩ : ∃ al, al = 2 * i + j := ⟨_, rfl⟩
                    have hac2 : 2 * (i : Int) + (k : Int) = (ac : Int) := by omega
                    have hal2 : 2 * (i : Int) + (j : Int) = (al : Int) := by omega
                    have HAC := Lib.hid hac
                    have HAL := Lib.hid hal
                    have hla1 : la = B - 1 := HLA.out
                    obtain ⟨lc, hlc⟩ : ∃ lc, lc = la - ac := ⟨_, rfl⟩
                    obtain ⟨ll, hll9⟩ : ∃ ll, ll = la - al := ⟨_, rfl⟩
                    have hlc2 : (la : Int) - (ac : Int) = (lc : Int) := by omega
                    have hll2 : (la : Int) - (al : Int) = (ll : Int) := by omega
                    have HLC := Lib.hid hlc
                    have HLL := Lib.hid hll9
                    have hacB : ac < B := by omega
                    have halB : al < B := by omega
                    have hlcB : lc < B := by omega
                    have hllB : ll < B := by omega
                    have HNX : Hid (iL L true i ++ sL L true i s ++ jL L true i s j ++ kL L true i s j (k + 1) = iL L true i ++ sL L true i s ++ jL L true i s j ++ kL L true i s j k ++ [ptN L true i s j k]) := by show _ = _; rw [HK.out]; simp only [List.append_assoc]
                    have HLE : Hid ((iL L true i ++ sL L true i s ++ jL L true i s j ++ kL L true i s j k).length ≤ 60000) := by
                      show _ ≤ _
                      have h1 := HIL.out i
                      have h2 : s * (2 * rN L true i) ≤ 4 * (2 * 140) := Nat.mul_le_mul (by omega) (by rw [← HRR.out]; omega)
                      rw [List.length_append, List.length_append, List.length_append, HKL.out, HJL.out, HSL.out]
                      omega
                    clear hac hal hlc hll9 hla1 hb1 hb2
                    have hs4 : s = 0 ∨ s = 1 ∨ s = 2 ∨ s = 3 := by omega
                    clear hlt2 hs
                    rcases hs4 with hsv | hsv | hsv | hsv
                    · have z0 : ((s : Int) == 0) = true := by simp; omega
                      have HS9 : Hid (s = 0) := hsv
                      clear hsv
                      have HM : Hid (∀ W, Calls Tryz.prog 99 #[.int .i64 ((ac : Nat) : Int), .int .i64 ((al : Nat) : Int), .int .i64 L, .bool true] W fun e w' => e = .returned (.agg #[.int .i64 (((ptN L true i s j k).1 : Nat) : Int), .int .i64 (((ptN L true i s j k).2 : Nat) : Int)]) ∧ Below W.heap.size W w') := fun W => by
                        have h := HMD.out W ac al (by omega) (by omega)
                        have e : ptN L true i s j k = mdN L true (ac, al) := by rw [HPT.out, ← HLA.out, ← HAC.out, ← HAL.out, ← HLC.out, ← HLL.out, HS9.out]; rfl
                        rw [e]; exact h
                      generalize ptN L true i s j k = p at *
                      generalize hll : iL L true i ++ sL L true i s ++ jL L true i s j ++ kL L true i s j k = ls at *
                      clear hll
                      go_wp2_with (first
                        | (go_at_call 99; refine (HM.out _).mono ?_; rintro e w5 ⟨rfl, hb5⟩; have HO5 := Lib.hid (hO4.out.below hb5); clear hb5)
                        | (at_builtin; refine wpList_append_pts (ownsRow_below HO5.out.O (bwA _ _)) (Nat.le_trans HO5.out.B.size (by simp)) rfl _ _ rfl rfl ⟨w5.heap.size, 0, none⟩ 1 1 [p] rfl rfl (lit_pts w5 [p] _) (by have := HLE.out; omega) ?_; intro v6 w6 hown hg hat; have HP := Lib.hid (HO5.out.grow (bwA _ _) hown hg); clear hown hg hat))
                      exact ⟨⟨k + 1, by omega, by go_num, by show OGP _ _ _ _; rw [HNX.out]; exact HP.out⟩, by simp [intOf]; omega⟩
                    · have z0 : ((s : Int) == 0) = false := by simp; omega
                      have z1 : ((s : Int) == 1) = true := by simp; omega
                      have HS9 : Hid (s = 1) := hsv
                      clear hsv
                      have HM : Hid (∀ W, Calls Tryz.prog 99 #[.int .i64 ((al : Nat) : Int), .int .i64 ((lc : Nat) : Int), .int .i64 L, .bool true] W fun e w' => e = .returned (.agg #[.int .i64 (((ptN L true i s j k).1 : Nat) : Int), .int .i64 (((ptN L true i s j k).2 : Nat) : Int)]) ∧ Below W.heap.size W w') := fun W => by
                        have h := HMD.out W al lc (by omega) (by omega)
                        have e : ptN L true i s j k = mdN L true (al, lc) := by rw [HPT.out, ← HLA.out, ← HAC.out, ← HAL.out, ← HLC.out, ← HLL.out, HS9.out]; rfl
                        rw [e]; exact h
                      generalize ptN L true i s j k = p at *
                      generalize hll : iL L true i ++ sL L true i s ++ jL L true i s j ++ kL L true i s j k = ls at *
                      clear hll
                      go_wp2_with (first
                        | (go_at_call 99; refine (HM.out _).mono ?_; rintro e w5 ⟨rfl, hb5⟩; have HO5 := Lib.hid (hO4.out.below hb5); clear hb5)
                        | (at_builtin; refine wpList_append_pts (ownsRow_below HO5.out.O (bwA _ _)) (Nat.le_trans HO5.out.B.size (by simp)) rfl _ _ rfl rfl ⟨w5.heap.size, 0, none⟩ 1 1 [p] rfl rfl (lit_pts w5 [p] _) (by have := HLE.out; omega) ?_; intro v6 w6 hown hg hat; have HP := Lib.hid (HO5.out.grow (bwA _ _) hown hg); clear hown hg hat))
                      exact ⟨⟨k + 1, by omega, by go_num, by show OGP _ _ _ _; rw [HNX.out]; exact HP.out⟩, by simp [intOf]; omega⟩
                    · have z0 : ((s : Int) == 0) = false := by simp; omega
                      have z1 : ((s : Int) == 1) = false := by simp; omega
                      have z2 : ((s : Int) == 2) = true := by simp; omega
                      have HS9 : Hid (s = 2) := hsv
                      clear hsv
                      have HM : Hid (∀ W, Calls Tryz.prog 99 #[.int .i64 ((lc : Nat) : Int), .int .i64 ((ll : Nat) : Int), .int .i64 L, .bool true] W fun e w' => e = .returned (.agg #[.int .i64 (((ptN L true i s j k).1 : Nat) : Int), .int .i64 (((ptN L true i s j k).2 : Nat) : Int)]) ∧ Below W.heap.size W w') := fun W => by
                        have h := HMD.out W lc ll (by omega) (by omega)
                        have e : ptN L true i s j k = mdN L true (lc, ll) := by rw [HPT.out, ← HLA.out, ← HAC.out, ← HAL.out, ← HLC.out, ← HLL.out, HS9.out]; rfl
                        rw [e]; exact h
                      generalize ptN L true i s j k = p at *
                      generalize hll : iL L true i ++ sL L true i s ++ jL L true i s j ++ kL L true i s j k = ls at *
                      clear hll
                      go_wp2_with (first
                        | (go_at_call 99; refine (HM.out _).mono ?_; rintro e w5 ⟨rfl, hb5⟩; have HO5 := Lib.hid (hO4.out.below hb5); clear hb5)
                        | (at_builtin; refine wpList_append_pts (ownsRow_below HO5.out.O (bwA _ _)) (Nat.le_trans HO5.out.B.size (by simp)) rfl _ _ rfl rfl ⟨w5.heap.size, 0, none⟩ 1 1 [p] rfl rfl (lit_pts w5 [p] _) (by have := HLE.out; omega) ?_; intro v6 w6 hown hg hat; have HP := Lib.hid (HO5.out.grow (bwA _ _) hown hg); clear hown hg hat))
                      exact ⟨⟨k + 1, by omega, by go_num, by show OGP _ _ _ _; rw [HNX.out]; exact HP.out⟩, by simp [intOf]; omega⟩
                    · have z0 : ((s : Int) == 0) = false := by simp; omega
                      have z1 : ((s : Int) == 1) = false := by simp; omega
                      have z2 : ((s : Int) == 2) = false := by simp; omega
                      have HS9 : Hid (s = 3) := hsv
                      clear hsv
                      have HM : Hid (∀ W, Calls Tryz.prog 99 #[.int .i64 ((ll : Nat) : Int), .int .i64 ((ac : Nat) : Int), .int .i64 L, .bool true] W fun e w' => e = .returned (.agg #[.int .i64 (((ptN L true i s j k).1 : Nat) : Int), .int .i64 (((ptN L true i s j k).2 : Nat) : Int)]) ∧ Below W.heap.size W w') := fun W => by
                        have h := HMD.out W ll ac (by omega) (by omega)
                        have e : ptN L true i s j k = mdN L true (ll, ac) := by rw [HPT.out, ← HLA.out, ← HAC.out, ← HAL.out, ← HLC.out, ← HLL.out, HS9.out]; rfl
                        rw [e]; exact h
                      generalize ptN L true i s j k = p at *
                      generalize hll : iL L true i ++ sL L true i s ++ jL L true i s j ++ kL L true i s j k = ls at *
                      clear hll
                      go_wp2_with (first
                        | (go_at_call 99; refine (HM.out _).mono ?_; rintro e w5 ⟨rfl, hb5⟩; have HO5 := Lib.hid (hO4.out.below hb5); clear hb5)
                        | (at_builtin; refine wpList_append_pts (ownsRow_below HO5.out.O (bwA _ _)) (Nat.le_trans HO5.out.B.size (by simp)) rfl _ _ rfl rfl ⟨w5.heap.size, 0, none⟩ 1 1 [p] rfl rfl (lit_pts w5 [p] _) (by have := HLE.out; omega) ?_; intro v6 w6 hown hg hat; have HP := Lib.hid (HO5.out.grow (bwA _ _) hown hg); clear hown hg hat))
                      exact ⟨⟨k + 1, by omega, by go_num, by show OGP _ _ _ _; rw [HNX.out]; exact HP.out⟩, by simp [intOf]; omega⟩
                  · obtain rfl : k = 2 := by omega
                    have HNX : Hid (iL L true i ++ sL L true i s ++ jL L true i s (j + 1) = iL L true i ++ sL L true i s ++ jL L true i s j ++ kL L true i s j 2) := by show _ = _; rw [HJ.out]; simp only [List.append_assoc]
                    go_wp2
                    exact ⟨⟨j + 1, by omega, by go_num, by show OGP _ _ _ _; rw [HNX.out]; exact hO4.out⟩, by simp [intOf]; omega⟩
              · obtain rfl : j = r := by omega
                have HNX : Hid (iL L true i ++ sL L true i (s + 1) = iL L true i ++ sL L true i s ++ jL L true i s j) := by show _ = _; rw [HS.out, ← HRR.out]; simp only [List.append_assoc]
                go_wp2
                exact ⟨⟨s + 1, by omega, by go_num, by show OGP _ _ _ _; rw [HNX.out]; exact hO3.out⟩, by simp [intOf]; omega⟩
          · obtain rfl : s = 4 := by omega
            have HNX : Hid (iL L true (i + 1) = iL L true i ++ sL L true i 4) := HI.out i
            go_wp2
            exact ⟨⟨i + 1, by omega, by go_num, by show OGP _ _ _ _; rw [HNX.out]; exact hO2.out⟩, by simp [intOf]; omega⟩
      · obtain rfl : i = L := by omega
        go_wp2
        go_ret
        exact ⟨_, rfl, by rw [HD.out]; exact hO.out.sp, hO.out.B⟩
  | false =>
    go_enter Tryz.func51, Tryz.ntmps51
    go_wp2_with (go_at_call 98; refine (HBA.out _).mono ?_; rintro e w1 ⟨rfl, hw1⟩; rw [hw1]; clear hw1)
    clear hla2
    go_loopw [5, 7] (fun ov iv wr => ∃ i : Nat, i ≤ L ∧ iv = .int .i64 i ∧ Hid (OGP w wr ov (iL L false i))) (fun _ iv _ => L - (intOf iv).toNat)
    case atStart => exact ⟨0, Nat.zero_le _, rfl, OGP.start _⟩
    case round =>
      obtain ⟨i, hi, rfl, hO⟩ := hrel
      by_cases hlt : i < L
      · obtain ⟨d, hd⟩ : ∃ d, d = L - i := ⟨_, rfl⟩
        have hd2 : (L : Int) - (i : Int) = (d : Int) := by omega
        obtain ⟨r, hr⟩ : ∃ r, r = rN L false i := ⟨_, rfl⟩
        have hr9 : r ≤ 140 := by rw [hr]; exact HRL.out i
        have HRR := Lib.hid hr
        have hr2 : 4 * (d : Int) + 12 = (r : Int) := by have h1 := HRN.out i; simp at h1; rw [hr, h1, hd]; omega
        have hd9 : d ≤ 32 := by omega
        have HO2 : ∀ ov, Hid (OGP w wr ov (iL L false i)) → Hid (OGP w wr ov (iL L false i ++ sL L false i 0)) := fun ov h => by show OGP _ _ _ _; rw [show sL L false i 0 = [] from rfl, List.append_nil]; exact h.out
        have HO2 := HO2 _ hO
        clear hd hr hO
        go_wp2
        clear hr2 hd2
        obtain ⟨wo, rfl⟩ : ∃ wo : World, wo = wr := ⟨_, rfl⟩
        go_loopw [5, 9] (fun ov sv wr => ∃ s : Nat, s ≤ 4 ∧ sv = .int .i64 s ∧ Hid (OGP w wr ov (iL L false i ++ sL L false i s))) (fun _ sv _ => 4 - (intOf sv).toNat)
        case atStart => exact ⟨0, Nat.zero_le _, rfl, HO2⟩
        case round =>
          clear HO2
          obtain ⟨s, hs, rfl, hO2⟩ := hrel
          by_cases hlt2 : s < 4
          · have HO3 : ∀ ov, Hid (OGP w wr ov (iL L false i ++ sL L false i s)) → Hid (OGP w wr ov (iL L false i ++ sL L false i s ++ jL L false i s 0)) := fun ov h => by show OGP _ _ _ _; rw [show jL L false i s 0 = [] from rfl, List.append_nil]; exact h.out
            have HO3 := HO3 _ hO2
            clear hO2
            have hs4d : decide ((s : Int) < 4) = true := by simp; omega
            go_wp2
            obtain ⟨wo, rfl⟩ : ∃ wo : World, wo = wr := ⟨_, rfl⟩
            go_loopw [5, 10] (fun ov jv wr => ∃ j : Nat, j ≤ r ∧ jv = .int .i64 j ∧ Hid (OGP w wr ov (iL L false i ++ sL L false i s ++ jL L false i s j))) (fun _ jv _ => r - (intOf jv).toNat)
            case atStart => exact ⟨0, Nat.zero_le _, rfl, HO3⟩
            case round =>
              clear HO3
              obtain ⟨j, hj, rfl, hO3⟩ := hrel
              by_cases hlt3 : j < r
              · have HO4 : ∀ ov, Hid (OGP w wr ov (iL L false i ++ sL L false i s ++ jL L false i s j)) → Hid (OGP w wr ov (iL L false i ++ sL L false i s ++ jL L false i s j ++ kL L false i s j 0)) := fun ov h => by show OGP _ _ _ _; rw [show kL L false i s j 0 = [] from rfl, List.append_nil]; exact h.out
                have HO4 := HO4 _ hO3
                clear hO3
                go_wp2
                obtain ⟨wo, rfl⟩ : ∃ wo : World, wo = wr := ⟨_, rfl⟩
                go_loopw [5, 11] (fun ov kv wr => ∃ k : Nat, k ≤ 2 ∧ kv = .int .i64 k ∧ Hid (OGP w wr ov (iL L false i ++ sL L false i s ++ jL L false i s j ++ kL L false i s j k))) (fun _ kv _ => 2 - (intOf kv).toNat)
                case atStart => exact ⟨0, Nat.zero_le _, rfl, HO4⟩
                case round =>
                  clear HO4
                  obtain ⟨k, hk, rfl, hO4⟩ := hrel
                  by_cases hlt4 : k < 2
                  · obtain ⟨hb1, hb2⟩ := HBX.out i j k hlt (by rw [← HRR.out]; exact hlt3) hlt4
                    obtain ⟨ac, hac⟩ : ∃ ac, ac = 2 * i + k := ⟨_, rfl⟩
                    obtain ⟨al, hal⟩ : ∃ al, al = 2 * i + j := ⟨_, rfl⟩
                    have hac2 : 2 * (i : Int) + (k : Int) = (ac : Int) := by omega
                    have hal2 : 2 * (i : Int) + (j : Int) = (al : Int) := by omega
                    have HAC := Lib.hid hac
                    have HAL := Lib.hid hal
                    have hla1 : la = B - 1 := HLA.out
                    obtain ⟨lc, hlc⟩ : ∃ lc, lc = la - ac := ⟨_, rfl⟩
                    obtain ⟨ll, hll9⟩ : ∃ ll, ll = la - al := ⟨_, rfl⟩
                    have hlc2 : (la : Int) - (ac : Int) = (lc : Int) := by omega
                    have hll2 : (la : Int) - (al : Int) = (ll : Int) := by omega
                    have HLC := Lib.hid hlc
                    have HLL := Lib.hid hll9
                    have hacB : ac < B := by omega
                    have halB : al < B := by omega
                    have hlcB : lc < B := by omega
                    have hllB : ll < B := by omega
                    have HNX : Hid (iL L false i ++ sL L false i s ++ jL L false i s j ++ kL L false i s j (k + 1) = iL L false i ++ sL L false i s ++ jL L false i s j ++ kL L false i s j k ++ [ptN L false i s j k]) := by show _ = _; rw [HK.out]; simp only [List.append_assoc]
                    have HLE : Hid ((iL L false i ++ sL L false i s ++ jL L false i s j ++ kL L false i s j k).length ≤ 60000) := by
                      show _ ≤ _
                      have h1 := HIL.out i
                      have h2 : s * (2 * rN L false i) ≤ 4 * (2 * 140) := Nat.mul_le_mul (by omega) (by rw [← HRR.out]; omega)
                      rw [List.length_append, List.length_append, List.length_append, HKL.out, HJL.out, HSL.out]
                      omega
                    clear hac hal hlc hll9 hla1 hb1 hb2
                    have hs4 : s = 0 ∨ s = 1 ∨ s = 2 ∨ s = 3 := by omega
                    clear hlt2 hs
                    rcases hs4 with hsv | hsv | hsv | hsv
                    · have z0 : ((s : Int) == 0) = true := by simp; omega
                      have HS9 : Hid (s = 0) := hsv
                      clear hsv
                      have HM : Hid (∀ W, Calls Tryz.prog 99 #[.int .i64 ((ac : Nat) : Int), .int .i64 ((al : Nat) : Int), .int .i64 L, .bool false] W fun e w' => e = .returned (.agg #[.int .i64 (((ptN L false i s j k).1 : Nat) : Int), .int .i64 (((ptN L false i s j k).2 : Nat) : Int)]) ∧ Below W.heap.size W w') := fun W => by
                        have h := HMD.out W ac al (by omega) (by omega)
                        have e : ptN L false i s j k = mdN L false (ac, al) := by rw [HPT.out, ← HLA.out, ← HAC.out, ← HAL.out, ← HLC.out, ← HLL.out, HS9.out]; rfl
                        rw [e]; exact h
                      generalize ptN L false i s j k = p at *
                      generalize hll : iL L false i ++ sL L false i s ++ jL L false i s j ++ kL L false i s j k = ls at *
                      clear hll
                      go_wp2_with (first
                        | (go_at_call 99; refine (HM.out _).mono ?_; rintro e w5 ⟨rfl, hb5⟩; have HO5 := Lib.hid (hO4.out.below hb5); clear hb5)
                        | (at_builtin; refine wpList_append_pts (ownsRow_below HO5.out.O (bwA _ _)) (Nat.le_trans HO5.out.B.size (by simp)) rfl _ _ rfl rfl ⟨w5.heap.size, 0, none⟩ 1 1 [p] rfl rfl (lit_pts w5 [p] _) (by have := HLE.out; omega) ?_; intro v6 w6 hown hg hat; have HP := Lib.hid (HO5.out.grow (bwA _ _) hown hg); clear hown hg hat))
                      exact ⟨⟨k + 1, by omega, by go_num, by show OGP _ _ _ _; rw [HNX.out]; exact HP.out⟩, by simp [intOf]; omega⟩
                    · have z0 : ((s : Int) == 0) = false := by simp; omega
                      have z1 : ((s : Int) == 1) = true := by simp; omega
                      have HS9 : Hid (s = 1) := hsv
                      clear hsv
                      have HM : Hid (∀ W, Calls Tryz.prog 99 #[.int .i64 ((al : Nat) : Int), .int .i64 ((lc : Nat) : Int), .int .i64 L, .bool false] W fun e w' => e = .returned (.agg #[.int .i64 (((ptN L false i s j k).1 : Nat) : Int), .int .i64 (((ptN L false i s j k).2 : Nat) : Int)]) ∧ Below W.heap.size W w') := fun W => by
                        have h := HMD.out W al lc (by omega) (by omega)
                        have e : ptN L false i s j k = mdN L false (al, lc) := by rw [HPT.out, ← HLA.out, ← HAC.out, ← HAL.out, ← HLC.out, ← HLL.out, HS9.out]; rfl
                        rw [e]; exact h
                      generalize ptN L false i s j k = p at *
                      generalize hll : iL L false i ++ sL L false i s ++ jL L false i s j ++ kL L false i s j k = ls at *
                      clear hll
                      go_wp2_with (first
                        | (go_at_call 99; refine (HM.out _).mono ?_; rintro e w5 ⟨rfl, hb5⟩; have HO5 := Lib.hid (hO4.out.below hb5); clear hb5)
                        | (at_builtin; refine wpList_append_pts (ownsRow_below HO5.out.O (bwA _ _)) (Nat.le_trans HO5.out.B.size (by simp)) rfl _ _ rfl rfl ⟨w5.heap.size, 0, none⟩ 1 1 [p] rfl rfl (lit_pts w5 [p] _) (by have := HLE.out; omega) ?_; intro v6 w6 hown hg hat; have HP := Lib.hid (HO5.out.grow (bwA _ _) hown hg); clear hown hg hat))
                      exact ⟨⟨k + 1, by omega, by go_num, by show OGP _ _ _ _; rw [HNX.out]; exact HP.out⟩, by simp [intOf]; omega⟩
                    · have z0 : ((s : Int) == 0) = false := by simp; omega
                      have z1 : ((s : Int) == 1) = false := by simp; omega
                      have z2 : ((s : Int) == 2) = true := by simp; omega
                      have HS9 : Hid (s = 2) := hsv
                      clear hsv
                      have HM : Hid (∀ W, Calls Tryz.prog 99 #[.int .i64 ((lc : Nat) : Int), .int .i64 ((ll : Nat) : Int), .int .i64 L, .bool false] W fun e w' => e = .returned (.agg #[.int .i64 (((ptN L false i s j k).1 : Nat) : Int), .int .i64 (((ptN L false i s j k).2 : Nat) : Int)]) ∧ Below W.heap.size W w') := fun W => by
                        have h := HMD.out W lc ll (by omega) (by omega)
                        have e : ptN L false i s j k = mdN L false (lc, ll) := by rw [HPT.out, ← HLA.out, ← HAC.out, ← HAL.out, ← HLC.out, ← HLL.out, HS9.out]; rfl
                        rw [e]; exact h
                      generalize ptN L false i s j k = p at *
                      generalize hll : iL L false i ++ sL L false i s ++ jL L false i s j ++ kL L false i s j k = ls at *
                      clear hll
                      go_wp2_with (first
                        | (go_at_call 99; refine (HM.out _).mono ?_; rintro e w5 ⟨rfl, hb5⟩; have HO5 := Lib.hid (hO4.out.below hb5); clear hb5)
                        | (at_builtin; refine wpList_append_pts (ownsRow_below HO5.out.O (bwA _ _)) (Nat.le_trans HO5.out.B.size (by simp)) rfl _ _ rfl rfl ⟨w5.heap.size, 0, none⟩ 1 1 [p] rfl rfl (lit_pts w5 [p] _) (by have := HLE.out; omega) ?_; intro v6 w6 hown hg hat; have HP := Lib.hid (HO5.out.grow (bwA _ _) hown hg); clear hown hg hat))
                      exact ⟨⟨k + 1, by omega, by go_num, by show OGP _ _ _ _; rw [HNX.out]; exact HP.out⟩, by simp [intOf]; omega⟩
                    · have z0 : ((s : Int) == 0) = false := by simp; omega
                      have z1 : ((s : Int) == 1) = false := by simp; omega
                      have z2 : ((s : Int) == 2) = false := by simp; omega
                      have HS9 : Hid (s = 3) := hsv
                      clear hsv
                      have HM : Hid (∀ W, Calls Tryz.prog 99 #[.int .i64 ((ll : Nat) : Int), .int .i64 ((ac : Nat) : Int), .int .i64 L, .bool false] W fun e w' => e = .returned (.agg #[.int .i64 (((ptN L false i s j k).1 : Nat) : Int), .int .i64 (((ptN L false i s j k).2 : Nat) : Int)]) ∧ Below W.heap.size W w') := fun W => by
                        have h := HMD.out W ll ac (by omega) (by omega)
                        have e : ptN L false i s j k = mdN L false (ll, ac) := by rw [HPT.out, ← HLA.out, ← HAC.out, ← HAL.out, ← HLC.out, ← HLL.out, HS9.out]; rfl
                        rw [e]; exact h
                      generalize ptN L false i s j k = p at *
                      generalize hll : iL L false i ++ sL L false i s ++ jL L false i s j ++ kL L false i s j k = ls at *
                      clear hll
                      go_wp2_with (first
                        | (go_at_call 99; refine (HM.out _).mono ?_; rintro e w5 ⟨rfl, hb5⟩; have HO5 := Lib.hid (hO4.out.below hb5); clear hb5)
                        | (at_builtin; refine wpList_append_pts (ownsRow_below HO5.out.O (bwA _ _)) (Nat.le_trans HO5.out.B.size (by simp)) rfl _ _ rfl rfl ⟨w5.heap.size, 0, none⟩ 1 1 [p] rfl rfl (lit_pts w5 [p] _) (by have := HLE.out; omega) ?_; intro v6 w6 hown hg hat; have HP := Lib.hid (HO5.out.grow (bwA _ _) hown hg); clear hown hg hat))
                      exact ⟨⟨k + 1, by omega, by go_num, by show OGP _ _ _ _; rw [HNX.out]; exact HP.out⟩, by simp [intOf]; omega⟩
                  · obtain rfl : k = 2 := by omega
                    have HNX : Hid (iL L false i ++ sL L false i s ++ jL L false i s (j + 1) = iL L false i ++ sL L false i s ++ jL L false i s j ++ kL L false i s j 2) := by show _ = _; rw [HJ.out]; simp only [List.append_assoc]
                    go_wp2
                    exact ⟨⟨j + 1, by omega, by go_num, by show OGP _ _ _ _; rw [HNX.out]; exact hO4.out⟩, by simp [intOf]; omega⟩
              · obtain rfl : j = r := by omega
                have HNX : Hid (iL L false i ++ sL L false i (s + 1) = iL L false i ++ sL L false i s ++ jL L false i s j) := by show _ = _; rw [HS.out, ← HRR.out]; simp only [List.append_assoc]
                go_wp2
                exact ⟨⟨s + 1, by omega, by go_num, by show OGP _ _ _ _; rw [HNX.out]; exact hO3.out⟩, by simp [intOf]; omega⟩
          · obtain rfl : s = 4 := by omega
            have HNX : Hid (iL L false (i + 1) = iL L false i ++ sL L false i 4) := HI.out i
            go_wp2
            exact ⟨⟨i + 1, by omega, by go_num, by show OGP _ _ _ _; rw [HNX.out]; exact hO2.out⟩, by simp [intOf]; omega⟩
      · obtain rfl : i = L := by omega
        go_wp2
        go_ret
        exact ⟨_, rfl, by rw [HD.out]; exact hO.out.sp, hO.out.B⟩
end Go.Proofs.YtmnlkganmgcpbaaGreatDoor
