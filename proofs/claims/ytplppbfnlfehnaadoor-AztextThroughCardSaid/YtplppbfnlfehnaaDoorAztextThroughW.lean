import Derived.Test.YtplppbfnlfehnaaDoorAztRB
import Derived.Test.YtplppbfnlfehnaaDoorAztPE
namespace Go.Proofs.YtplppbfnlfehnaaDoor.aztextThrough
open Go.RowKit Go.WideMaps Go.Maps
set_option linter.unusedVariables false
theorem oneB_ones (b : List Bool) (e : Nat) (h : b.length ≤ e) : oneB_ b 0 e = b ++ List.replicate (e - b.length) true := by
  apply List.ext_getElem?
  intro i
  by_cases hi : i < b.length
  · rw [List.getElem?_append_left hi]
    unfold oneB_
    rw [List.getElem?_map, List.getElem?_range (by omega), Option.map_some, Nat.zero_add, List.getD_eq_getElem?_getD, List.getElem?_eq_getElem hi]; rfl
  · rw [List.getElem?_append_right (by omega)]
    by_cases h2 : i < e
    · unfold oneB_
      rw [List.getElem?_map, List.getElem?_range h2, Option.map_some, Nat.zero_add, List.getD_eq_getElem?_getD, List.getElem?_eq_none (by omega), List.getElem?_replicate, if_pos (by omega)]; rfl
    · rw [List.getElem?_eq_none (by rw [oneB_len]; omega), List.getElem?_eq_none (by rw [List.length_replicate]; omega)]
set_option maxRecDepth 100000 in
set_option maxHeartbeats 4000000 in
theorem yes_walk (A : Option Addr) (n c : Nat) (l : List UInt8) (s : Nat) (w : World) (hp : SR vU 0 w A n c l) (hs1 : 2 ≤ s) (hs2 : s ≤ 12) (hn : n ≤ 200) :
    Calls Tryd.prog 8 #[.slice A n c, .int .i64 (s : Int)] w fun e w' => e = .returned (.bool true) ∧ Below w.heap.size w w' := by
  have hN : n = l.length := hp.hn
  have hps : (bA l).size ≤ 4096 := by rw [bA_size]; omega
  have HP := Lib.hid hp
  have HN := Lib.hid hN
  have HPS := Lib.hid hps
  have d1 : decide ((200 : Int) < (n : Int)) = false := by simp; omega
  have d2 : decide ((s : Int) < 2) = false := by simp; omega
  have d3 : decide ((12 : Int) < (s : Int)) = false := by simp; omega
  clear hp hN hps
  go_enter Tryd.func8, Tryd.ntmps8
  go_wp2_with fail
  refine (Encode_any A n c l _ HP.out (by omega)).mono ?_
  rintro e1 w1 ⟨C1, hC1, v1, rfl, hs, hb⟩
  have hC1' : Cost (bA l) C1 := hC1
  have HC1 := Lib.hid hC1'
  obtain ⟨E, hE⟩ : ∃ E, E = encP (bA l) C1 := ⟨_, rfl⟩
  have HE := Lib.hid hE
  have hs0 : SG vB false w1 v1 E := by rw [hE]; exact hs
  obtain ⟨A1, n1, c1, rfl, hr⟩ := hs0.parts
  have HEL : Hid (E.length ≤ 4000) := by
    show _ ≤ _
    rw [hE, encP_len HPS.out hC1']
    have h := cost_bound (by rw [← HN.out]; omega) (hC1'.ac HPS.out)
    rw [← HN.out] at h
    omega
  have HB1 := Lib.hid hb
  have HS1 := Lib.hid hr
  have HP1 := Lib.hid (HP.out.below hb)
  clear hC1 hC1' hE hs hs0 hr hb
  go_wp2_with fail
  refine (Stuff_any A1 n1 c1 s E _ HS1.out).mono ?_
  rintro e2 w2 ⟨v2, rfl, hs, hb⟩
  have hSR : stuffRes E s = (stuffL E s, 0) := by have := HEL.out; unfold stuffRes; rw [if_neg (by omega), if_neg (by omega), Int.toNat_natCast]
  rw [hSR] at hs
  rw [hSR]
  obtain ⟨A2, n2, c2, rfl, hr⟩ := hs.int.parts
  have HB2 := Lib.hid (bwStep HB1.out hb)
  have HP2 := Lib.hid (HP1.out.below hb)
  have HS2 : Hid (SR vI 0 w2 A2 n2 c2 (zN (stuffL E s))) := hr
  clear hSR hr hs hb HP1
  go_wp2_with fail
  refine (Unstuff_any A2 n2 c2 s (zN (stuffL E s)) _ HS2.out).mono ?_
  rintro e3 w3 ⟨v3, rfl, hs, hb⟩
  obtain ⟨e, u1, u2, u3, _⟩ := unstuff_stuff E s hs1 hs2 (by have := HEL.out; omega)
  rw [u3] at hs
  rw [u3]
  have hs0 : SG vB false w3 v3 (E ++ List.replicate (e - E.length) true) := by rw [← oneB_ones E e u1]; exact hs
  obtain ⟨A3, n3, c3, rfl, hr⟩ := hs0.parts
  have HDK : Hid (decRes (E ++ List.replicate (e - E.length) true) = (l, 0)) := by
    show _ = _
    have h := dec_encP (by rw [← HN.out]; omega) HC1.out (e - E.length) (by omega)
    rw [← HE.out] at h
    exact h
  have HB3 := Lib.hid (bwStep HB2.out hb)
  have HP3 := Lib.hid (HP2.out.below hb)
  have HS3 := Lib.hid hr
  clear hr hs hs0 hb HP2 u1 u2 u3
  go_wp2_with fail
  refine (Decode_any A3 n3 c3 _ _ HS3.out).mono ?_
  rintro e4 w4 ⟨v4, rfl, hs, hb⟩
  rw [HDK.out] at hs
  rw [HDK.out]
  obtain ⟨A4, n4, c4, rfl, hr⟩ := hs.parts
  have HB4 := Lib.hid (bwStep HB3.out hb)
  have HP4 := Lib.hid (HP3.out.below hb)
  have HR4 := Lib.hid hr
  clear hr hs hb HP3
  go_wp2_with (first
    | ((with_reducible show wpList _ _ _ (⟨_, Op.convert 22 9 _, _, _, _, _⟩ :: _) _ _); refine wpList_convG rfl (exec_convB (A := A4) (n := n4) (c := c4) rfl rfl HR4.out) ?_)
    | ((with_reducible show wpList _ _ _ (⟨_, Op.convert 22 9 _, _, _, _, _⟩ :: _) _ _); refine wpList_convG rfl (exec_convB (A := A) (n := n) (c := c) rfl rfl HP4.out) ?_)
    | (go_at_call 11; refine (alive_any _).mono ?_; rintro e w8 ⟨rfl, hb8⟩; have HB8 := Lib.hid (bwStep HB4.out hb8); clear hb8))
  go_ret
  exact ⟨rfl, HB8.out⟩
set_option maxRecDepth 100000 in
set_option maxHeartbeats 4000000 in
theorem law_walk (A : Option Addr) (n c : Nat) (l : List UInt8) (size : Int) (w : World) (hp : SR vU 0 w A n c l) (_ : -9223372036854775808 ≤ size ∧ size ≤ 9223372036854775807) :
    Calls Tryd.prog 8 #[.slice A n c, .int .i64 size] w fun e w' => e = .returned (.bool true) ∧ Below w.heap.size w w' := by
  have hn63 : n ≤ 9223372036854775807 := by have := hp.hm; have := hp.hc; unfold maxLen at *; omega
  have fin : ∀ (d1 : decide ((200 : Int) < (n : Int)) = true ∨ (decide ((200 : Int) < (n : Int)) = false ∧ (decide (size < 2) = true ∨ (decide (size < 2) = false ∧ decide (12 < size) = true)))), Calls Tryd.prog 8 #[.slice A n c, .int .i64 size] w fun e w' => e = .returned (.bool true) ∧ Below w.heap.size w w' := by
    intro d1
    clear hp
    rcases d1 with d1 | ⟨d1, d2 | ⟨d2, d3⟩⟩
    all_goals
      go_enter Tryd.func8, Tryd.ntmps8
      go_wp2_with (go_at_call 11; refine (alive_any _).mono ?_; rintro e w8 ⟨rfl, hb8⟩; have HB8 := Lib.hid hb8; clear hb8)
      go_ret
      exact ⟨rfl, HB8.out⟩
  by_cases hn : n ≤ 200
  · by_cases h0 : size < 2
    · exact fin (.inr ⟨by simp; omega, .inl (by simp; omega)⟩)
    · by_cases h1 : 12 < size
      · exact fin (.inr ⟨by simp; omega, .inr ⟨by simp; omega, by simp; omega⟩⟩)
      · obtain ⟨s, rfl⟩ := Int.eq_ofNat_of_zero_le (show 0 ≤ size by omega)
        exact yes_walk A n c l s w hp (by omega) (by omega) hn
  · exact fin (.inl (by simp; omega))
end Go.Proofs.YtplppbfnlfehnaaDoor.aztextThrough
