import Derived.Test.YtefnflmabdpnbaaLogA
namespace Go.Proofs.Ytefnflmabdpnbaa
open Go.RowKit Go.WideMaps Go.Maps
set_option linter.unusedVariables false
def LogPost (C S P : Nat) (w : World) (e : Ending) (w' : World) : Prop := ∃ b, e = .returned (.map (some b)) ∧ Below w.heap.size w w' ∧ LogMap C S P (S - 1) w' b
theorem InW.grown {w wr w' : World} {c s p : Int} {k : Nat} (h : InW w c s p wr) (hg : wr.grownBy w' (some k)) (hk : w.heap.size < k) : InW w c s p w' := by
  obtain ⟨h0, h1, h2, h3, h4⟩ := h
  have hb := hg.block w.heap.size h1 (by simp; omega)
  exact ⟨h0.grown hg h0.size (fun j hj => by cases hj; omega), Nat.lt_of_lt_of_le h1 hg.size, (World.cell?_of_block hb).trans h2, (World.cell?_of_block hb).trans h3, (World.cell?_of_block hb).trans h4⟩
set_option maxHeartbeats 1000000 in
theorem logarithms_any (C S P : Nat) (w : World) (hv : VF C S P) :
    Calls Try.prog 48 #[fldv C S P] w (LogPost C S P w) := by
  have hS := hv.le
  have hS2 := hv.two_le
  have hC := hv.c_le
  have hP := hv.p_le
  have hgl := (genF_spec hv).2.1
  have HV := Lib.hid hv; clear hv
  have hmm := @run_makeMap Try.prog
  go_enter Try.func48, Try.ntmps48
  go_wp2_with fail
  refine (generator_any C S P _ HV.out).mono ?_
  rintro e w1 ⟨rfl, hb1⟩
  have hin1 := InW.step (InW.alloc (InW.start w C S P 23) (.map #[] 0)) hb1
  have hlm : LogMap C S P 0 w1 (w.heap.size + 1) := by
    refine LogMap.kept ?_ hb1
    refine ⟨.map [], ⟨_, rfl⟩, ?_, fun j hj => by omega⟩
    have := World.ownsMap_made (H := Unit) (w.alloc (.cells #[.int .i64 C, .int .i64 S, .int .i64 P] 23)) Try.prog 54 (plainElem Try.prog 3)
    simpa using this
  obtain ⟨-, hsz1, hc10, hc11, hc12⟩ := id hin1
  have HIN1 := Lib.hid hin1; clear hin1 hb1
  have HLM := Lib.hid hlm; clear hlm
  clear hmm
  go_wp2_with fail
  go_loopw [5, 6, 13] (fun x _ i wr => ∃ k : Nat, k ≤ S - 1 ∧ x = .int .i64 (fpowN S P (genF S P) k : Nat) ∧ i = .int .i64 k ∧ InW w C S P wr ∧ LogMap C S P k wr (w.heap.size + 1)) (fun _ _ i _ => S - 1 - (intOf i).toNat)
  case atStart => exact ⟨0, Nat.zero_le _, rfl, rfl, HIN1.out, HLM.out⟩
  case round =>
    obtain ⟨k, hk, rfl, rfl, hin, hlm⟩ := hrel
    obtain ⟨hbl, hsz, hc0, hc1, hc2⟩ := id hin
    have HIN := Lib.hid hin; clear hin
    have HBL := Lib.hid hbl; clear hbl
    clear hc10 hc11 hc12 hsz1
    by_cases hlt : k < S - 1
    · obtain ⟨D, hD, hown, hat⟩ := hlm
      have hx : fpowN S P (genF S P) k < S := fpowN_lt HV.out _ _
      have hE : Hid (fmulN S P (fpowN S P (genF S P) k) (genF S P) = fpowN S P (genF S P) (k + 1)) := rfl
      have HP := Lib.hid (LogMap.put HV.out hlt hD hat)
      clear hat
      generalize hX : fpowN S P (genF S P) k = X at *
      have HX := Lib.hid hX; clear hX
      have hkey := Lib.hid (key_nat C S P X hC hS hP (by omega))
      go_wp2_with (at_mapUpdate; refine wpList_mapUpdate_own _ rfl _ _ _ 51 rfl 54 3 elLaw Try.underlying51 _ (w.heap.size + 1) k _ rfl hown (by unfold maxLen; omega) _ _ _ rfl rfl hkey.out _ [] (plainElem_int Try.underlying3 (wf_small k (by omega))) ?_)
      intro w2 hown2 hg2
      have hin2 := HIN.out.grown hg2 (by omega)
      have hlm2 : LogMap C S P (k + 1) w2 (w.heap.size + 1) := ⟨_, HP.out.1, hown2, HP.out.2⟩
      have HLM2 := Lib.hid hlm2; clear hlm2 hown2 hg2 hown HP
      obtain ⟨-, hsz2, hd0, hd1, hd2⟩ := id hin2
      have HIN2 := Lib.hid hin2; clear hin2
      go_wp2_with fail
      refine (product_any C S P _ _ _ HV.out (by omega) (by omega) (by omega) (by omega)).mono ?_
      rintro e w3 ⟨rfl, hb3⟩
      have hin3 := Lib.hid (HIN2.out.step hb3)
      have hlm3 := Lib.hid (HLM2.out.kept hb3)
      clear hb3
      go_wp2_with fail
      exact ⟨⟨k + 1, by omega, by rw [← hE.out], by go_num, hin3.out, hlm3.out⟩, by simp [intOf]; omega⟩
    · obtain rfl : k = S - 1 := by omega
      have HL := Lib.hid hlm; clear hlm
      go_wp2_with fail
      go_ret
      exact ⟨_, rfl, HBL.out, HL.out⟩
/-! Log -/
noncomputable def logR (c s p a : Int) : Int × Int := if ok1 c s p a then (if a = 0 then (0, 12) else ((logF s.toNat p.toNat a.toNat : Nat), 0)) else (0, 1)
set_option maxHeartbeats 1000000 in
theorem Log_zero (C S P : Nat) (w : World) (hv : VF C S P) :
    Calls Try.prog 18 #[fldv C S P, .int .i64 0] w fun e w' => e = .returned (tup (0, 12)) ∧ Below w.heap.size w w' := by
  have hS := hv.le
  have hS2 := hv.two_le
  have hP : (P : Int) ≤ 9223372036854775807 := hv.pbd
  have HH : Hid ((vldB C S P && inB S [(0 : Int)]) = true) := (ok1_eq _ _ _ _).trans (ok1_of (A := 0) hv (by omega))
  have HV := Lib.hid hv; clear hv
  go_enter Try.func18, Try.ntmps18
  go_wp2_with fail
  refine (has1_any C S P 0 _ _ hP (by simp) (by go_simp)).mono ?_
  rintro e w1 ⟨rfl, hb1⟩
  rw [HH.out]
  have hin1 := InW.step (InW.alloc (InW.start w C S P 23) (.cells #[.int .i64 0] 3)) hb1
  obtain ⟨-, hsz1, hc10, hc11, hc12⟩ := id hin1
  have HIN1 := Lib.hid hin1; clear hin1 hb1
  go_wp2_with fail
  go_ret2
  exact ⟨rfl, HIN1.out.below⟩
set_option maxHeartbeats 1000000 in
theorem Log_yes (C S P A : Nat) (w : World) (hv : VF C S P) (ha : A < S) (ha0 : 0 < A) :
    Calls Try.prog 18 #[fldv C S P, .int .i64 A] w fun e w' => e = .returned (tup ((logF S P A : Nat), 0)) ∧ Below w.heap.size w w' := by
  have hS := hv.le
  have hS2 := hv.two_le
  have hP : (P : Int) ≤ 9223372036854775807 := hv.pbd
  have HH : Hid ((vldB C S P && inB S [(A : Int)]) = true) := (ok1_eq _ _ _ _).trans (ok1_of hv ha)
  have HV := Lib.hid hv; clear hv
  have hbz : (((A : Nat) : Int) == 0) = false := by rw [beq_eq_false_iff_ne]; omega
  go_enter Try.func18, Try.ntmps18
  go_wp2_with fail
  refine (has1_any C S P A _ _ hP (by simp) (by go_simp)).mono ?_
  rintro e w1 ⟨rfl, hb1⟩
  rw [HH.out]
  have hin1 := InW.step (InW.alloc (InW.start w C S P 23) (.cells #[.int .i64 A] 3)) hb1
  obtain ⟨-, hsz1, hc10, hc11, hc12⟩ := id hin1
  have HIN1 := Lib.hid hin1; clear hin1 hb1
  go_wp2_with fail
  go_region_held3 (fun w' => (w'.cell? ⟨w.heap.size, 0, none⟩ = some (.int .i64 C) ∧ w'.cell? ⟨w.heap.size, 1, none⟩ = some (.int .i64 S) ∧ w'.cell? ⟨w.heap.size, 2, none⟩ = some (.int .i64 P)) ∧ InW w C S P w') (first | exact hold_of (InW.drew HIN1.out) | exact hold_of (by assumption)) (first | (go_at_call 48; refine (logarithms_any C S P _ HV.out).mono ?_; rintro e v1 ⟨b, rfl, hv1, hm⟩; have hi1 := InW.step (And.right (by assumption)) hv1; have hlk := hm.lookup HV.out A ha (by omega); have HM := Lib.hid hm; clear hm))
  all_goals go_wp2
  all_goals go_ret2
  all_goals exact ⟨rfl, InW.below (And.right (by assumption))⟩
theorem Log_any (c s p a : Int) (w : World) (hs : s ≤ 9223372036854775807) (hp : p ≤ 9223372036854775807) :
    Calls Try.prog 18 #[fldv c s p, .int .i64 a] w fun e w' => e = .returned (tup (logR c s p a)) ∧ Below w.heap.size w w' := by
  cases h : ok1 c s p a
  · unfold logR; rw [h]; exact Log_no c s p a w hp h
  · unfold logR; rw [h]
    obtain ⟨C, S, P, A, rfl, rfl, rfl, rfl, ha, hv⟩ := ok1_nat h
    simp only [Int.toNat_natCast, if_true]
    by_cases h0 : A = 0
    · subst h0; rw [if_pos (by rfl)]; exact Log_zero C S P w hv
    · rw [if_neg (by omega)]; exact Log_yes C S P A w hv ha (by omega)

/-! the reference's Log -/
set_option maxHeartbeats 1000000 in
theorem rLog_zero (C S P : Nat) (w : World) (hv : VF C S P) :
    Calls Try.prog 25 #[fldv C S P, .int .i64 0] w fun e w' => e = .returned (tup (0, 12)) ∧ Below w.heap.size w w' := by
  have hS := hv.le
  have hS2 := hv.two_le
  have hP : (P : Int) ≤ 9223372036854775807 := hv.pbd
  have hSb : (S : Int) ≤ 9223372036854775807 := by omega
  have HX0 : Hid (vldB C S P = true) := vld_of hv
  have HX1 : Hid (isB S (0 : Int) = true) := isB_of (A := 0) (by omega)
  have HV := Lib.hid hv; clear hv
  go_enter Try.func25, Try.ntmps25
  go_wp2_with fail
  refine (rvalid_any C S P _ hSb hP).mono ?_
  rintro e w1 ⟨rfl, hb1⟩
  rw [HX0.out]
  have hin1 := InW.step (InW.start w C S P 23) hb1
  obtain ⟨-, hsz1, hc10, hc11, hc12⟩ := id hin1
  have HIN1 := Lib.hid hin1; clear hin1 hb1
  go_wp2_with fail
  refine (is_any C S P 0 _).mono ?_
  rintro e w2 ⟨rfl, hb2⟩
  rw [HX1.out]
  have hin2 := InW.step HIN1.out hb2
  obtain ⟨-, hsz2, hc20, hc21, hc22⟩ := id hin2
  have HIN2 := Lib.hid hin2; clear hin2 hb2
  go_wp2_with fail
  go_ret2
  exact ⟨rfl, HIN2.out.below⟩
set_option maxHeartbeats 1000000 in
theorem rLog_yes (C S P A : Nat) (w : World) (hv : VF C S P) (ha : A < S) (ha0 : 0 < A) :
    Calls Try.prog 25 #[fldv C S P, .int .i64 A] w fun e w' => e = .returned (tup ((logF S P A : Nat), 0)) ∧ Below w.heap.size w w' := by
  have hS := hv.le
  have hS2 := hv.two_le
  have hP : (P : Int) ≤ 9223372036854775807 := hv.pbd
  have hSb : (S : Int) ≤ 9223372036854775807 := by omega
  have HX0 : Hid (vldB C S P = true) := vld_of hv
  have HX1 : Hid (isB S (A : Int) = true) := isB_of ha
  have hl := logF_spec hv ha (by omega)
  have hgl := (genF_spec hv).2.1
  have HV := Lib.hid hv; clear hv
  have hbz : (((A : Nat) : Int) == 0) = false := by rw [beq_eq_false_iff_ne]; omega
  generalize hLg : logF S P A = L at *
  have hL1 := hl.1
  have HL := Lib.hid hl; clear hl
  have HLg := Lib.hid hLg; clear hLg
  go_enter Try.func25, Try.ntmps25
  go_wp2_with fail
  refine (rvalid_any C S P _ hSb hP).mono ?_
  rintro e w1 ⟨rfl, hb1⟩
  rw [HX0.out]
  have hin1 := InW.step (InW.start w C S P 23) hb1
  obtain ⟨-, hsz1, hc10, hc11, hc12⟩ := id hin1
  have HIN1 := Lib.hid hin1; clear hin1 hb1
  go_wp2_with fail
  refine (is_any C S P A _).mono ?_
  rintro e w2 ⟨rfl, hb2⟩
  rw [HX1.out]
  have hin2 := InW.step HIN1.out hb2
  obtain ⟨-, hsz2, hc20, hc21, hc22⟩ := id hin2
  have HIN2 := Lib.hid hin2; clear hin2 hb2
  go_wp2_with fail
  refine (primitive_any C S P _ HV.out).mono ?_
  rintro e w3 ⟨rfl, hb3⟩
  have hin3 := InW.step HIN2.out hb3
  obtain ⟨-, hsz3, hc30, hc31, hc32⟩ := id hin3
  have HIN3 := Lib.hid hin3; clear hin3 hb3
  go_wp2_with fail
  go_loopw [7, 8] (fun x i wr => ∃ k : Nat, k ≤ L ∧ x = .int .i64 (fpowN S P (genF S P) k : Nat) ∧ i = .int .i64 k ∧ InW w C S P wr) (fun _ i _ => L - (intOf i).toNat)
  case atStart => exact ⟨0, Nat.zero_le _, rfl, rfl, HIN3.out⟩
  case round =>
    obtain ⟨k, hk, rfl, rfl, hin⟩ := hrel
    obtain ⟨hbl, hsz, hc0, hc1, hc2⟩ := id hin
    have HIN := Lib.hid hin; clear hin
    have HBL := Lib.hid hbl; clear hbl
    clear hc10 hc11 hc12 hsz1 hc20 hc21 hc22 hsz2 hc30 hc31 hc32 hsz3
    have hx : fpowN S P (genF S P) k < S := fpowN_lt HV.out _ _
    have hE : Hid (fmulN S P (fpowN S P (genF S P) k) (genF S P) = fpowN S P (genF S P) (k + 1)) := rfl
    by_cases hlt : k < L
    · have hne : (((fpowN S P (genF S P) k : Nat) : Int) == (A : Int)) = false := by
        rw [beq_eq_false_iff_ne]; intro e
        have := gen_inj HV.out (i := k) (j := L) (by omega) hL1 (by rw [HL.out.2]; omega)
        omega
      generalize hX : fpowN S P (genF S P) k = X at *
      have HX := Lib.hid hX; clear hX
      go_wp2_with fail
      refine (times_any C S P _ _ _ HV.out (by omega) (by omega) (by omega) (by omega)).mono ?_
      rintro e w4 ⟨rfl, hb4⟩
      have hin4 := Lib.hid (HIN.out.step hb4)
      clear hb4
      go_wp2_with fail
      exact ⟨⟨k + 1, by omega, by rw [← hE.out], by go_num, hin4.out⟩, by simp [intOf]; omega⟩
    · have hkL : k = L := by omega
      have hne : (((fpowN S P (genF S P) k : Nat) : Int) == (A : Int)) = true := by
        rw [hkL, HL.out.2, beq_iff_eq]
      have HK := Lib.hid hkL; clear hkL
      generalize hX : fpowN S P (genF S P) k = X at *
      have HX := Lib.hid hX; clear hX
      go_wp2_with fail
      go_ret2
      exact ⟨ret_tup (by rw [HK.out]) rfl, HBL.out⟩
theorem rLog_any (c s p a : Int) (w : World) (hs : s ≤ 9223372036854775807) (hp : p ≤ 9223372036854775807) :
    Calls Try.prog 25 #[fldv c s p, .int .i64 a] w fun e w' => e = .returned (tup (logR c s p a)) ∧ Below w.heap.size w w' := by
  cases h : ok1 c s p a
  · unfold logR; rw [h]; exact rLog_no c s p a w hs hp h
  · unfold logR; rw [h]
    obtain ⟨C, S, P, A, rfl, rfl, rfl, rfl, ha, hv⟩ := ok1_nat h
    simp only [Int.toNat_natCast, if_true]
    by_cases h0 : A = 0
    · subst h0; rw [if_pos (by rfl)]; exact rLog_zero C S P w hv
    · rw [if_neg (by omega)]; exact rLog_yes C S P A w hv ha (by omega)
end Go.Proofs.Ytefnflmabdpnbaa
