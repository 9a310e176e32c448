import Derived.Test.YtplppbfnlfehnaaDoorAztLB
import Derived.Test.YtplppbfnlfehnaaDoorAztPE
import Derived.Test.YtplppbfnlfehnaaDoorAztSG
namespace Go.Proofs.YtplppbfnlfehnaaDoor.aztextEncodes
open Go.RowKit Go.WideMaps Go.Maps
set_option linter.unusedVariables false
set_option maxRecDepth 100000 in
set_option maxHeartbeats 4000000 in
theorem law_walk (A : Option Addr) (n c : Nat) (l : List UInt8) (w : World) (hp : SR vU 0 w A n c l) :
    Calls Tryd.prog 3 #[.slice A n c] w fun e w' => e = .returned (.bool true) ∧ Below w.heap.size w w' := by
  have hn63 : n ≤ 9223372036854775807 := by have := hp.hm; have := hp.hc; unfold maxLen at *; omega
  by_cases hn : n ≤ 60
  · have hps : (bA l).size ≤ 4096 := by rw [bA_size, ← hp.hn]; omega
    have HP := Lib.hid hp
    have HPS := Lib.hid hps
    have d1 : decide ((60 : Int) < (n : Int)) = false := by simp; omega
    clear hp hps
    go_enter Tryd.func3, Tryd.ntmps3
    go_wp2_with fail
    refine (Encode_any A n c l _ HP.out (by omega)).mono ?_
    rintro e1 w1 ⟨C, hC, v1, rfl, hs, hb⟩
    have hC' : Cost (bA l) C := hC
    obtain ⟨E, hE⟩ : ∃ E, E = encP (bA l) C := ⟨_, rfl⟩
    have hs0 : SG vB false w1 v1 E := by rw [hE]; exact hs
    obtain ⟨A1, n1, c1, rfl, hr⟩ := hs0.parts
    have HC := Lib.hid hC'
    have HE := Lib.hid hE
    have HP1 := Lib.hid (HP.out.below hb)
    have HB1 := Lib.hid hb
    have HR1 := Lib.hid hr
    have HREF : Hid (Calls Tryd.prog 13 #[.slice A n c] w1 (RT vB false w1 (E, 0))) := by
      show Calls _ _ _ _ _
      rw [hE]
      exact REncode_ref A n c l w1 HP1.out (by omega) C hC'
    clear hC hC' hE hs hs0 hr hb HP
    go_wp2_with fail
    refine HREF.out.mono ?_
    rintro e2 w2 ⟨v2, rfl, hs, hb⟩
    obtain ⟨A2, n2, c2, rfl, hr⟩ := hs.parts
    have HB2 := Lib.hid (bwStep HB1.out hb)
    have HP2 := Lib.hid (HP1.out.below hb)
    have HR12 := Lib.hid (HR1.out.below hb)
    have HR2 := Lib.hid hr
    clear hs hr hb HP1 HR1 HREF
    go_wp2_with fail
    refine (Length_any A n c l _ HP2.out (by omega)).mono ?_
    rintro e3 w3 ⟨C3, hC3, rfl, hb⟩
    have hC3' : Cost (bA l) C3 := hC3
    have hl : C3 0 0 = n2 := by
      rw [HR2.out.hn, HE.out, encP_len HPS.out HC.out]
      exact (encP_congr HPS.out hC3' HC.out).2
    rw [hl]
    have HB3 := Lib.hid (bwStep HB2.out hb)
    have HS : Hid (∀ W, Abv w3 W → Calls Tryd.prog 15 #[.slice A1 n1 c1, .slice A2 n2 c2] W fun e w' => e = .returned (.bool true) ∧ Below W.heap.size W w') := by
      show ∀ W, _
      intro W hW
      refine (Same_any A1 n1 c1 E A2 n2 c2 E W ((HR12.out.below hb).below hW) ((HR2.out.below hb).below hW)).mono ?_
      rintro e w' ⟨rfl, h⟩
      exact ⟨by simp, h⟩
    clear hC3 hC3' hl hb HP2 HR12 HR2 HE HC
    go_wp2_with (first
      | (go_at_call 15; refine (HS.out _ (Below.refl _ _)).mono ?_; rintro e w8 ⟨rfl, hb8⟩; have HB8 := Lib.hid (bwStep HB3.out hb8); clear hb8)
      | (go_at_call 11; refine (alive_any _).mono ?_; rintro e w9 ⟨rfl, hb9⟩; have HB9 := Lib.hid (bwStep HB8.out hb9); clear hb9))
    go_ret
    exact ⟨rfl, HB9.out⟩
  · have d1 : decide ((60 : Int) < (n : Int)) = true := by simp; omega
    clear hp
    go_enter Tryd.func3, Tryd.ntmps3
    go_wp2_with (go_at_call 11; refine (alive_any _).mono ?_; rintro e w8 ⟨rfl, hb8⟩; have HB8 := Lib.hid hb8; clear hb8)
    go_ret
    exact ⟨rfl, HB8.out⟩
end Go.Proofs.YtplppbfnlfehnaaDoor.aztextEncodes
