import Derived.Test.YtplppbfnlfehnaaDoorAztLB
import Derived.Test.YtplppbfnlfehnaaDoorAztPE
namespace Go.Proofs.YtplppbfnlfehnaaDoor.aztextReturns
open Go.RowKit Go.WideMaps Go.Maps
set_option linter.unusedVariables false
set_option maxRecDepth 100000 in
set_option maxHeartbeats 4000000 in
theorem yes_walk (A : Option Addr) (n c : Nat) (l : List UInt8) (k : Nat) (w : World) (hp : SR vU 0 w A n c l) (hk : k ≤ 11) (hn : n ≤ 300) :
    Calls Tryd.prog 6 #[.slice A n c, .int .i64 (k : Int)] w fun e w' => e = .returned (.bool true) ∧ Below w.heap.size w w' := by
  obtain ⟨i0, hi, hz0, hz1, hz2⟩ := info_parts boolInfo
  have hN : n = l.length := hp.hn
  have hps : (bA l).size ≤ 4096 := by rw [bA_size]; omega
  have HP := Lib.hid hp
  have HN := Lib.hid hN
  have HPS := Lib.hid hps
  have d1 : decide ((300 : Int) < (n : Int)) = false := by simp; omega
  have d2 : decide ((k : Int) < 0) = false := by simp
  have d3 : decide ((11 : Int) < (k : Int)) = false := by simp; omega
  clear hp hN hps
  go_enter Tryd.func6, Tryd.ntmps6
  go_wp2_with fail
  refine (Encode_any A n c l _ HP.out (by omega)).mono ?_
  rintro e1 w1 ⟨C1, hC1, v1, rfl, hs, hb⟩
  have hC1' : Cost (bA l) C1 := hC1
  have HC1 := Lib.hid hC1'
  obtain ⟨E, hE⟩ : ∃ E, E = encP (bA l) C1 := ⟨_, rfl⟩
  have HE := Lib.hid hE
  obtain ⟨N, hNN⟩ : ∃ N, N = C1 0 0 := ⟨_, rfl⟩
  have hs2 : SG vB false w1 v1 E := by rw [hE]; exact hs
  obtain ⟨A1, n1, c1, rfl, hr⟩ := hs2.parts
  have hn1 : n1 = N := by rw [hr.hn, hE, encP_len HPS.out hC1', hNN]
  subst hn1
  have HNN := Lib.hid hNN
  have HB1 := Lib.hid hb
  have HS1 := Lib.hid hr
  have HP1 := Lib.hid (HP.out.below hb)
  have hbd : n1 ≤ 8 * n + 21 := by rw [hNN, HN.out]; exact cost_bound (by rw [← HN.out]; omega) (hC1'.ac HPS.out)
  clear hC1 hC1' hE hNN hs hs2 hr hb
  go_wp2_with fail
  refine (Length_any A n c l _ HP1.out (by omega)).mono ?_
  rintro e2 w2 ⟨C2, hC2, rfl, hb⟩
  have e0 : C2 0 0 = n1 := by rw [HNN.out]; exact (encP_congr HPS.out (show Cost (bA l) C2 from hC2) HC1.out).2
  rw [e0]
  have HB2 := Lib.hid (bwStep HB1.out hb)
  have HS2 := Lib.hid (HS1.out.below hb)
  have HP2 := Lib.hid (HP1.out.below hb)
  clear hC2 hb e0 HS1 HP1
  go_wp2_with fail
  refine (Decode_any A1 n1 c1 E _ HS2.out).mono ?_
  rintro e3 w3 ⟨v3, rfl, hs, hb⟩
  have HD0 : Hid (decRes E = (l, 0)) := by
    show _ = _
    have h := dec_encP (by rw [← HN.out]; omega) HC1.out 0 (by omega)
    rw [List.replicate_zero, List.append_nil, ← HE.out] at h
    exact h
  have HDK : Hid (decRes (E ++ List.replicate k true) = (l, 0)) := by
    show _ = _
    rw [HE.out]
    exact dec_encP (by rw [← HN.out]; omega) HC1.out k hk
  rw [HD0.out] at hs
  rw [HD0.out]
  obtain ⟨A3, n3, c3, rfl, hr⟩ := hs.parts
  have HB3 := Lib.hid (bwStep HB2.out hb)
  have HS3 := Lib.hid (HS2.out.below hb)
  have HP3 := Lib.hid (HP2.out.below hb)
  have HQ3 := Lib.hid hr
  clear hr hs hb HS2 HP2
  have HO3 : Hid ((w3.alloc (.cells #[] 4)).ownsRow w3.heap.size 4 1 (.slice (some ⟨w3.heap.size, 0, none⟩) 0 0) 0 (([] : List Bool).map vB)) := own_lit (f := vB) w3 [] 4 0 rfl (by unfold maxLen; omega)
  go_wp2_with (at_builtin; refine wpList_append_G (f := vB) (d := false) oneB rfl _ _ _ rfl w3.heap.size 4 i0 _ 1 Tryd.underlying24 hi hz0 hz1 hz2 rfl _ 0 [] rfl HO3.out A1 n1 c1 E rfl HS3.out.hn (HS3.out.below (bwA _ _)).rd (by unfold maxLen; omega) (by omega) (by simp) ?_; intro v5 w5 hown hg; have HB5 : Hid (Below w3.heap.size w3 w5) := (bwA _ _).grown hg (by simp) (fun k hk => (HO3.out.lt k hk).1); have HO5 : Hid (w5.ownsRow w3.heap.size 4 1 v5 E.length (E.map vB)) := (by have h := hown; rw [Nat.zero_add, HS3.out.hn] at h; exact h); clear hown hg)
  have HEL : Hid (E.length ≤ 3000) := by show _ ≤ _; rw [← HS3.out.hn]; omega
  go_loopw [11, 57] (fun ov iv wr => ∃ i : Nat, i ≤ k ∧ iv = .int .i64 i ∧ Hid (Below w3.heap.size w3 wr) ∧ Hid (wr.ownsRow w3.heap.size 4 1 ov (E ++ List.replicate i true).length ((E ++ List.replicate i true).map vB))) (fun _ iv _ => k - (intOf iv).toNat)
  case atStart => exact ⟨0, Nat.zero_le _, rfl, HB5.out, by show World.ownsRow _ _ _ _ _ _ _; rw [List.replicate_zero, List.append_nil]; exact HO5.out⟩
  case round =>
    obtain ⟨i, hik, rfl, hW, hO⟩ := hrel
    by_cases hlt : i < k
    · have HST : Hid (E ++ List.replicate (i + 1) true = (E ++ List.replicate i true) ++ [true]) := by show _ = _; rw [List.append_assoc, List.replicate_succ']
      have HLE : Hid ((E ++ List.replicate i true).length ≤ 4000) := by show _ ≤ _; rw [List.length_append, List.length_replicate]; have := HEL.out; omega
      have HSZ : Hid (w3.heap.size ≤ wr.heap.size) := hW.out.size
      go_wp2_with (at_builtin; refine wpList_append_G (f := vB) (d := false) oneB rfl _ _ _ rfl w3.heap.size 4 i0 _ 1 Tryd.underlying24 hi hz0 hz1 hz2 rfl _ _ (E ++ List.replicate i true) rfl (ownsRow_alloc' hO.out _) (some ⟨wr.heap.size, 0, none⟩) 1 1 [true] rfl rfl (RG.one _ _ _ _ rfl) (by unfold maxLen; have := HLE.out; omega) (by have := HLE.out; omega) (by have := HSZ.out; simp; omega) ?_; intro v6 w6 hown hg; have HB6 : Hid (Below w3.heap.size w3 w6) := ((hW.out.alloc HSZ.out _).grown hg (by have := HSZ.out; simp; omega) (fun q hq => (hO.out.lt q hq).1)); have HO6 := Lib.hid hown; clear hown hg)
      exact ⟨⟨i + 1, by omega, by go_num, HB6.out, by
        show World.ownsRow _ _ _ _ _ _ _
        rw [HST.out]
        have e1 : (E ++ List.replicate i true ++ [true]).length = (E ++ List.replicate i true).length + 1 := List.length_append
        rw [e1]; exact HO6.out⟩, by simp [intOf]; omega⟩
    · obtain rfl : i = k := by omega
      obtain ⟨A7, n7, c7, rfl, hr7⟩ := (SG.of_own (f := vB) (d := false) hO.out).parts
      have HS7 := Lib.hid hr7
      clear hr7
      go_wp2_with fail
      refine (Decode_any A7 n7 c7 (E ++ List.replicate i true) _ HS7.out).mono ?_
      rintro e4 w4 ⟨v4, rfl, hs, hb⟩
      rw [HDK.out] at hs
      rw [HDK.out]
      obtain ⟨A4, n4, c4, rfl, hr⟩ := hs.parts
      have HB34 : Hid (Below w3.heap.size w3 w4) := hW.out.trans (hb.mono hW.out.size)
      have HB4 := Lib.hid (HB3.out.trans (HB34.out.mono HB3.out.size))
      have HQ4 := Lib.hid (HQ3.out.below HB34.out)
      have HP4 := Lib.hid (HP3.out.below HB34.out)
      have HR4 := Lib.hid hr
      clear hr hs hb
      have d8 : decide (n1 ≤ 8 * n + 21) = true := by simp; omega
      go_wp2_with (first
        | ((with_reducible show wpList _ _ _ (⟨_, Op.convert 22 9 _, _, _, _, _⟩ :: _) _ _); refine wpList_convG rfl (exec_convB (A := A3) (n := n3) (c := c3) rfl rfl HQ4.out) ?_)
        | ((with_reducible show wpList _ _ _ (⟨_, Op.convert 22 9 _, _, _, _, _⟩ :: _) _ _); refine wpList_convG rfl (exec_convB (A := A4) (n := n4) (c := c4) rfl rfl HR4.out) ?_)
        | ((with_reducible show wpList _ _ _ (⟨_, Op.convert 22 9 _, _, _, _, _⟩ :: _) _ _); refine wpList_convG rfl (exec_convB (A := A) (n := n) (c := c) rfl rfl HP4.out) ?_)
        | (go_at_call 11; refine (alive_any _).mono ?_; rintro e w8 ⟨rfl, hb8⟩; have HB8 := Lib.hid (bwStep HB4.out hb8); clear hb8))
      go_ret
      exact ⟨rfl, HB8.out⟩
set_option maxRecDepth 100000 in
set_option maxHeartbeats 4000000 in
theorem law_walk (A : Option Addr) (n c : Nat) (l : List UInt8) (more : Int) (w : World) (hp : SR vU 0 w A n c l) (_ : -9223372036854775808 ≤ more ∧ more ≤ 9223372036854775807) :
    Calls Tryd.prog 6 #[.slice A n c, .int .i64 more] w fun e w' => e = .returned (.bool true) ∧ Below w.heap.size w w' := by
  have hn63 : n ≤ 9223372036854775807 := by have := hp.hm; have := hp.hc; unfold maxLen at *; omega
  have fin : ∀ (d1 : decide ((300 : Int) < (n : Int)) = true ∨ (decide ((300 : Int) < (n : Int)) = false ∧ (decide (more < 0) = true ∨ (decide (more < 0) = false ∧ decide (11 < more) = true)))), Calls Tryd.prog 6 #[.slice A n c, .int .i64 more] w fun e w' => e = .returned (.bool true) ∧ Below w.heap.size w w' := by
    intro d1
    clear hp
    rcases d1 with d1 | ⟨d1, d2 | ⟨d2, d3⟩⟩
    all_goals
      go_enter Tryd.func6, Tryd.ntmps6
      go_wp2_with (go_at_call 11; refine (alive_any _).mono ?_; rintro e w8 ⟨rfl, hb8⟩; have HB8 := Lib.hid hb8; clear hb8)
      go_ret
      exact ⟨rfl, HB8.out⟩
  by_cases hn : n ≤ 300
  · by_cases h0 : more < 0
    · exact fin (.inr ⟨by simp; omega, .inl (by simp; omega)⟩)
    · by_cases h1 : 11 < more
      · exact fin (.inr ⟨by simp; omega, .inr ⟨by simp; omega, by simp; omega⟩⟩)
      · obtain ⟨k, rfl⟩ := Int.eq_ofNat_of_zero_le (show 0 ≤ more by omega)
        exact yes_walk A n c l k w hp (by omega) hn
  · exact fin (.inl (by simp; omega))
end Go.Proofs.YtplppbfnlfehnaaDoor.aztextReturns
