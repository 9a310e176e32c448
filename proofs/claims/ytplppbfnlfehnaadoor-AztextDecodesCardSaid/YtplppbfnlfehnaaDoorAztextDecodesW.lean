import Derived.Test.YtplppbfnlfehnaaDoorAztLB
import Derived.Test.YtplppbfnlfehnaaDoorAztRG
namespace Go.Proofs.YtplppbfnlfehnaaDoor.aztextDecodes
open Go.RowKit Go.WideMaps Go.Maps
set_option linter.unusedVariables false
set_option maxRecDepth 100000 in
set_option maxHeartbeats 4000000 in
theorem law_walk (A : Option Addr) (n c : Nat) (b : List Bool) (w : World) (hp : SR vB false w A n c b) :
    Calls Tryd.prog 4 #[.slice A n c] w fun e w' => e = .returned (.bool true) ∧ Below w.heap.size w w' := by
  have hn63 : n ≤ 9223372036854775807 := by have := hp.hm; have := hp.hc; unfold maxLen at *; omega
  by_cases hn : n ≤ 2000
  · have HP := Lib.hid hp
    have d1 : decide ((2000 : Int) < (n : Int)) = false := by simp; omega
    clear hp
    go_enter Tryd.func4, Tryd.ntmps4
    go_wp2_with fail
    refine (Decode_any A n c b _ HP.out).mono ?_
    rintro e1 w1 ⟨v1, rfl, hs, hb⟩
    obtain ⟨A1, n1, c1, rfl, hr⟩ := hs.parts
    have HP1 := Lib.hid (HP.out.below hb)
    have HB1 := Lib.hid hb
    have HR1 := Lib.hid hr
    clear hs hr hb HP
    go_wp2_with fail
    refine (RDecode_ref A n c b _ HP1.out).mono ?_
    rintro e2 w2 ⟨v2, rfl, hs, hb⟩
    obtain ⟨A2, n2, c2, rfl, hr⟩ := hs.parts
    have HB2 := Lib.hid (bwStep HB1.out hb)
    have HR12 := Lib.hid (HR1.out.below hb)
    have HR2 := Lib.hid hr
    clear hs hr hb HP1 HR1
    generalize decRes b = r at *
    go_wp2_with (first
      | ((with_reducible show wpList _ _ _ (⟨_, Op.convert 22 9 _, _, _, _, _⟩ :: _) _ _); refine wpList_convG rfl (exec_convB (A := A1) (n := n1) (c := c1) rfl rfl HR12.out) ?_)
      | ((with_reducible show wpList _ _ _ (⟨_, Op.convert 22 9 _, _, _, _, _⟩ :: _) _ _); refine wpList_convG rfl (exec_convB (A := A2) (n := n2) (c := c2) rfl rfl HR2.out) ?_)
      | (go_at_call 11; refine (alive_any _).mono ?_; rintro e w8 ⟨rfl, hb8⟩; have HB8 := Lib.hid (bwStep HB2.out hb8); clear hb8))
    go_ret
    exact ⟨rfl, HB8.out⟩
  · have d1 : decide ((2000 : Int) < (n : Int)) = true := by simp; omega
    clear hp
    go_enter Tryd.func4, Tryd.ntmps4
    go_wp2_with (go_at_call 11; refine (alive_any _).mono ?_; rintro e w8 ⟨rfl, hb8⟩; have HB8 := Lib.hid hb8; clear hb8)
    go_ret
    exact ⟨rfl, HB8.out⟩
end Go.Proofs.YtplppbfnlfehnaaDoor.aztextDecodes
