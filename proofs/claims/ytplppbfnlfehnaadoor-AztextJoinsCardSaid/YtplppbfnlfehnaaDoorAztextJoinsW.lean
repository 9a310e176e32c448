import Derived.Test.YtplppbfnlfehnaaDoorAztPB
import Derived.Test.YtplppbfnlfehnaaDoorAztLB
namespace Go.Proofs.YtplppbfnlfehnaaDoor.aztextJoins
open Go.RowKit Go.WideMaps Go.Maps
set_option linter.unusedVariables false
set_option maxRecDepth 100000 in
set_option maxHeartbeats 4000000 in
theorem law_walk (A : Option Addr) (n c : Nat) (p : List UInt8) (A' : Option Addr) (n' c' : Nat) (q : List UInt8) (w : World) (hp : SR vU 0 w A n c p) (hq : SR vU 0 w A' n' c' q) :
    Calls Tryd.prog 10 #[.slice A n c, .slice A' n' c'] w fun e w' => e = .returned (.bool true) ∧ Below w.heap.size w w' := by
  have hn63 : n ≤ 9223372036854775807 := by have := hp.hm; have := hp.hc; unfold maxLen at *; omega
  have hn63' : n' ≤ 9223372036854775807 := by have := hq.hm; have := hq.hc; unfold maxLen at *; omega
  by_cases h1 : n ≤ 150
  · by_cases h2 : n' ≤ 150
    · obtain ⟨i0, hi, hz0, hz1, hz2⟩ := info_parts byteInfo
      have HP := Lib.hid hp
      have HQ := Lib.hid hq
      have d1 : decide ((150 : Int) < (n : Int)) = false := by simp; omega
      have d2 : decide ((150 : Int) < (n' : Int)) = false := by simp; omega
      clear hp hq
      go_enter Tryd.func10, Tryd.ntmps10
      go_wp2_with fail
      refine (Length_any A n c p _ HP.out (by omega)).mono ?_
      rintro e w1 ⟨C1, hC1, rfl, hb1⟩
      have HC1 : Hid (ACost (bA p) C1 ∧ C1 0 0 ≤ 18 * n) := ⟨hC1.ac (by rw [bA_size, ← HP.out.hn]; omega), by have h := hC1.up 0; rw [show (⟨p.toArray⟩ : ByteArray) = bA p from rfl, bA_size, ← HP.out.hn] at h; omega⟩
      have HB1 := Lib.hid hb1
      have HQ1 := Lib.hid (HQ.out.below hb1)
      have HP1 := Lib.hid (HP.out.below hb1)
      clear hC1 hb1
      go_wp2_with fail
      refine (Length_any A' n' c' q _ HQ1.out (by omega)).mono ?_
      rintro e w2 ⟨C2, hC2, rfl, hb2⟩
      have HC2 : Hid (ACost (bA q) C2 ∧ C2 0 0 ≤ 18 * n') := ⟨hC2.ac (by rw [bA_size, ← HQ.out.hn]; omega), by have h := hC2.up 0; rw [show (⟨q.toArray⟩ : ByteArray) = bA q from rfl, bA_size, ← HQ.out.hn] at h; omega⟩
      have HB2 := Lib.hid (bwStep HB1.out hb2)
      have HQ2 := Lib.hid (HQ1.out.below hb2)
      have HP2 := Lib.hid (HP1.out.below hb2)
      clear hC2 hb2
      have HO2 : Hid ((w2.alloc (.cells #[] 5)).ownsRow w2.heap.size 5 1 (.slice (some ⟨w2.heap.size, 0, none⟩) 0 0) 0 (([] : List UInt8).map vU)) := own_lit (f := vU) w2 [] 5 0 rfl (by unfold maxLen; omega)
      go_wp2_with (first
        | (at_builtin; (with_reducible show wpList _ _ _ _ _ (World.alloc w2 _)); refine wpList_append_G (f := vU) (d := 0) oneU rfl _ _ _ rfl w2.heap.size 5 i0 _ 1 Tryd.underlying22 hi hz0 hz1 hz2 rfl _ 0 [] rfl HO2.out A n c p rfl HP.out.hn (HP2.out.below (bwA _ _)).rd (by unfold maxLen; omega) (by omega) (by simp) ?_; intro v5 w5 hown hg; have HB5 : Hid (Below w2.heap.size w2 w5) := (bwA _ _).grown hg (by simp) (fun k hk => (HO2.out.lt k hk).1); have HO5 := Lib.hid hown; have HQ5 := Lib.hid (HQ2.out.below HB5.out); clear hown hg)
        | (at_builtin; refine wpList_append_G (f := vU) (d := 0) oneU rfl _ _ _ rfl w2.heap.size 5 i0 _ 1 Tryd.underlying22 hi hz0 hz1 hz2 rfl _ (0 + n) ([] ++ p) rfl HO5.out A' n' c' q rfl HQ.out.hn HQ5.out.rd (by unfold maxLen; omega) (by omega) HB5.out.size ?_; intro v6 w6 hown hg; have HB6 : Hid (Below w2.heap.size w2 w6) := HB5.out.grown hg HB5.out.size (fun k hk => (HO5.out.lt k hk).1); obtain ⟨A6, n6, c6, rfl, hs6⟩ := (SG.of_own (f := vU) (d := 0) hown).parts; have HS6 := Lib.hid hs6; clear hown hg hs6)
        | fail)
      have hn6 : n6 = n + n' := by have h := HS6.out.hn; rw [List.length_append, List.nil_append, ← HP.out.hn, ← HQ.out.hn] at h; exact h
      have HS6' : Hid (SR vU 0 w6 A6 n6 c6 (p ++ q)) := HS6.out
      refine (Length_any A6 n6 c6 (p ++ q) _ HS6'.out (by omega)).mono ?_
      rintro e w7 ⟨C3, hC3, rfl, hb7⟩
      have HB7 := Lib.hid (bwStep (HB2.out.trans (HB6.out.mono HB2.out.size)) hb7)
      have hle : C3 0 0 ≤ C1 0 0 + C2 0 0 + 9 := joins HC1.out.1 HC2.out.1 (hC3.ac (by rw [bA_size, ← HS6'.out.hn]; omega)) (fun m hm => hC3.toUp p.length m hm)
      have ha := HC1.out.2
      have hb := HC2.out.2
      clear HC1 HC2 hC3 hb7 HS6 HS6' HQ2 HP2 HQ1 HP1 HB6 HB2 HB1
      generalize C1 0 0 = x1 at *
      generalize C2 0 0 = x2 at *
      generalize C3 0 0 = x3 at *
      have d3 : decide ((x3 : Int) ≤ (x1 : Int) + (x2 : Int) + 9) = true := by simp; omega
      have hx1 : x1 ≤ 2700 := by omega
      have hx2 : x2 ≤ 2700 := by omega
      clear ha hb hle hn6
      go_wp2_with (go_at_call 11; refine (alive_any _).mono ?_; rintro e w8 ⟨rfl, hb8⟩; have HB8 := Lib.hid (bwStep HB7.out hb8); clear hb8)
      go_ret
      exact ⟨rfl, HB8.out⟩
    · have d1 : decide ((150 : Int) < (n : Int)) = false := by simp; omega
      have d2 : decide ((150 : Int) < (n' : Int)) = true := by simp; omega
      clear hp hq
      go_enter Tryd.func10, Tryd.ntmps10
      go_wp2_with (go_at_call 11; refine (alive_any _).mono ?_; rintro e w8 ⟨rfl, hb8⟩; have HB8 := Lib.hid hb8; clear hb8)
      go_ret
      exact ⟨rfl, HB8.out⟩
  · have d1 : decide ((150 : Int) < (n : Int)) = true := by simp; omega
    clear hp hq
    go_enter Tryd.func10, Tryd.ntmps10
    go_wp2_with (go_at_call 11; refine (alive_any _).mono ?_; rintro e w8 ⟨rfl, hb8⟩; have HB8 := Lib.hid hb8; clear hb8)
    go_ret
    exact ⟨rfl, HB8.out⟩
end Go.Proofs.YtplppbfnlfehnaaDoor.aztextJoins
