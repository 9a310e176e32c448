import Derived.Test.YtplppbfnlfehnaaDoorAztRB
namespace Go.Proofs.YtplppbfnlfehnaaDoor.aztextStuffs
open Go.RowKit Go.WideMaps Go.Maps
set_option linter.unusedVariables false
set_option maxRecDepth 100000 in
set_option maxHeartbeats 4000000 in
theorem law_walk (A : Option Addr) (n c : Nat) (b : List Bool) (A' : Option Addr) (n' c' : Nat) (ws : List Int) (size : Int) (w : World) (hp : SR vB false w A n c b) (hq : SR vI 0 w A' n' c' ws)
    (_ : ∀ x ∈ ws, -9223372036854775808 ≤ x ∧ x ≤ 9223372036854775807) (_ : -9223372036854775808 ≤ size ∧ size ≤ 9223372036854775807) :
    Calls Tryd.prog 5 #[.slice A n c, .slice A' n' c', .int .i64 size] w fun e w' => e = .returned (.bool true) ∧ Below w.heap.size w w' := by
  have hn63 : n ≤ 9223372036854775807 := by have := hp.hm; have := hp.hc; unfold maxLen at *; omega
  have hn63' : n' ≤ 9223372036854775807 := by have := hq.hm; have := hq.hc; unfold maxLen at *; omega
  by_cases h1 : n ≤ 2000
  · by_cases h2 : n' ≤ 300
    · have HP := Lib.hid hp
      have HQ := Lib.hid hq
      have d1 : decide ((2000 : Int) < (n : Int)) = false := by simp; omega
      have d2 : decide ((300 : Int) < (n' : Int)) = false := by simp; omega
      clear hp hq
      go_enter Tryd.func5, Tryd.ntmps5
      go_wp2_with fail
      refine (Stuff_any A n c size b _ HP.out).mono ?_
      rintro e w1 ⟨v1, rfl, hs, hb⟩
      obtain ⟨A1, n1, c1, rfl, hr⟩ := hs.int.parts
      have HB := Lib.hid hb
      have HS1 := Lib.hid hr
      have HQ1 := Lib.hid (HQ.out.below hb)
      have HP1 := Lib.hid (HP.out.below hb)
      clear hr hs hb
      go_wp2_with fail
      refine (RStuff_any A n c size b _ HP1.out).mono ?_
      rintro e w2 ⟨v2, rfl, hs, hb⟩
      obtain ⟨A2, n2, c2, rfl, hr⟩ := hs.int.parts
      have HB2 := Lib.hid (bwStep HB.out hb)
      have HS1b := Lib.hid (HS1.out.below hb)
      have HS2 := Lib.hid hr
      have HQ2 := Lib.hid (HQ1.out.below hb)
      clear hr hs hb
      go_wp2_with fail
      refine (Unstuff_any A' n' c' size ws _ HQ2.out).mono ?_
      rintro e w3 ⟨v3, rfl, hs, hb⟩
      obtain ⟨A3, n3, c3, rfl, hr⟩ := hs.parts
      have HB3 := Lib.hid (bwStep HB2.out hb)
      have HS1c := Lib.hid (HS1b.out.below hb)
      have HS2c := Lib.hid (HS2.out.below hb)
      have HS3 := Lib.hid hr
      have HQ3 := Lib.hid (HQ2.out.below hb)
      clear hr hs hb
      go_wp2_with fail
      refine (RUnstuff_any A' n' c' size ws _ HQ3.out).mono ?_
      rintro e w4 ⟨v4, rfl, hs, hb⟩
      obtain ⟨A4, n4, c4, rfl, hr⟩ := hs.parts
      have HB4 := Lib.hid (bwStep HB3.out hb)
      have HS1d := Lib.hid (HS1c.out.below hb)
      have HS2d := Lib.hid (HS2c.out.below hb)
      have HS3d := Lib.hid (HS3.out.below hb)
      have HS4 := Lib.hid hr
      clear hr hs hb
      go_wp2_with fail
      refine (Ints_any A1 n1 c1 _ A2 n2 c2 _ _ HS1d.out HS2d.out).mono ?_
      rintro e w5 ⟨rfl, hb⟩
      rw [decide_eq_true rfl]
      have HB5 := Lib.hid (bwStep HB4.out hb)
      have HS3e := Lib.hid (HS3d.out.below hb)
      have HS4e := Lib.hid (HS4.out.below hb)
      clear hb
      go_wp2_with fail
      refine (Same_any A3 n3 c3 _ A4 n4 c4 _ _ HS3e.out HS4e.out).mono ?_
      rintro e w6 ⟨rfl, hb⟩
      rw [decide_eq_true rfl]
      have HB6 := Lib.hid (bwStep HB5.out hb)
      clear hb
      go_wp2_with fail
      refine (alive_any _).mono ?_
      rintro e w7 ⟨rfl, hb⟩
      have HB7 := Lib.hid (bwStep HB6.out hb)
      clear hb
      go_wp2
      go_ret
      exact ⟨rfl, HB7.out⟩
    · have d1 : decide ((2000 : Int) < (n : Int)) = false := by simp; omega
      have d2 : decide ((300 : Int) < (n' : Int)) = true := by simp; omega
      clear hp hq
      go_enter Tryd.func5, Tryd.ntmps5
      go_wp2_with (go_at_call 11; refine (alive_any _).mono ?_; rintro e w8 ⟨rfl, hb8⟩; have HB8 := Lib.hid hb8; clear hb8)
      go_ret
      exact ⟨rfl, HB8.out⟩
  · have d1 : decide ((2000 : Int) < (n : Int)) = true := by simp; omega
    clear hp hq
    go_enter Tryd.func5, Tryd.ntmps5
    go_wp2_with (go_at_call 11; refine (alive_any _).mono ?_; rintro e w8 ⟨rfl, hb8⟩; have HB8 := Lib.hid hb8; clear hb8)
    go_ret
    exact ⟨rfl, HB8.out⟩
end Go.Proofs.YtplppbfnlfehnaaDoor.aztextStuffs
