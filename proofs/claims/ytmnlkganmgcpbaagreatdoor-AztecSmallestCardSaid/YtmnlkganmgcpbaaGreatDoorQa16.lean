import Derived.Test.YtmnlkganmgcpbaaGreatDoorQa15
import Derived.Test.YtmnlkganmgcpbaaGreatDoorQa7
import Derived.Deep.RegionHeld3
namespace Go.Proofs.YtmnlkganmgcpbaaGreatDoor
open Go.RowKit
theorem bl_two_pow (n : Nat) : bl (2 ^ n) = n + 1 := bl_eq _ _ (Nat.le_refl _) (by rw [Nat.pow_succ]; have := Nat.two_pow_pos n; omega)
theorem vldB_two (s p : Int) : vldB 2 s p = (decide (2 ≤ bl s.toNat) && decide (bl s.toNat ≤ 13) && decide (s = ((2 ^ (bl s.toNat - 1) : Nat) : Int)) && rirrB p ((bl s.toNat : Int) - 1)) := by
  unfold vldB rirrB
  by_cases hp0 : p = 0
  · subst hp0
    rw [if_pos rfl]
    have e0 : bl (0 : Int).toNat = 0 := rfl
    rw [e0]
    by_cases h1 : 2 ≤ bl s.toNat
    · have h2 : ¬ ((0 : Nat) : Int) = (bl s.toNat : Int) - 1 + 1 := by omega
      rw [decide_eq_false h2]
      have h3 : ¬ (2 < s ∧ (2 : Int) = s) := by omega
      by_cases h4 : 2 < s
      · have h5 : ¬ (2 : Int) = s := by omega
        simp [h5]
      · simp [h4]
    · have h5 : ¬ 2 < s := by
        intro h; have := two_le_bl s (by omega); omega
      simp [h1, h5]
  · rw [if_neg hp0, Bool.eq_iff_iff]
    simp only [Bool.and_eq_true, decide_eq_true_iff]
    constructor
    · rintro ⟨⟨⟨⟨h1, h2⟩, -⟩, h4⟩, h5⟩
      have hb := two_le_bl p h1
      have hs : bl s.toNat = bl p.toNat := by
        rw [h4, Int.toNat_natCast, bl_two_pow]; omega
      rw [hs]
      exact ⟨⟨⟨hb, h2⟩, h4⟩, ⟨by omega, by omega⟩, h5⟩
    · rintro ⟨⟨⟨h1, h2⟩, h3⟩, ⟨h4, h5⟩, h6⟩
      have hs : bl p.toNat = bl s.toNat := by omega
      rw [hs]
      have hp : 2 ≤ p := by
        have := pow_bl_le p.toNat (by omega)
        rw [hs] at this
        have h7 : 2 ^ 1 ≤ 2 ^ (bl s.toNat - 1) := Nat.pow_le_pow_right (by omega) (by omega)
        omega
      exact ⟨⟨⟨⟨hp, h2⟩, trivial⟩, h3⟩, h6⟩
theorem szw2 (n : Nat) (h : n ≤ 13) : wrap64 (2 ^ n) = ((2 ^ n : Nat) : Int) := by
  have h := Nat.pow_le_pow_right (n := 2) (by omega) h
  rw [show ((2 : Int) ^ n) = ((2 ^ n : Nat) : Int) from by simp]
  generalize 2 ^ n = N at *
  exact IntWalk.wrap64_in _ (by omega)
end Go.Proofs.YtmnlkganmgcpbaaGreatDoor
namespace Go.Proofs.YtmnlkganmgcpbaaGreatDoor
open Go.RowKit
theorem bcell {W w1 : World} (hb : Below W.heap.size W w1) : (∀ b o, b < W.heap.size → w1.cell? ⟨b, o, none⟩ = W.cell? ⟨b, o, none⟩) ∧ (∀ b o, b < W.heap.size → w1.frozen? ⟨b, o, none⟩ = W.frozen? ⟨b, o, none⟩) :=
  ⟨fun _ _ h => hb.cell h, fun _ _ h => hb.frozen h⟩
def inB (s : Int) (xs : List Int) : Bool := xs.all fun a => decide (0 ≤ a) && decide (a < s)
set_option maxHeartbeats 400000 in
theorem has_no (c s p : Int) (xs : Value) (w : World) (h1 : p ≤ 9223372036854775807) (hv : vldB c s p = false) :
    Calls Tryz.prog 157 #[fldv c s p, xs] w fun e w' => e = .returned (.bool false) ∧ Below w.heap.size w w' := by
  have HV := Lib.hid hv; clear hv
  go_enter Tryz.func157, Tryz.ntmps157
  go_wp2_with (go_at_call 149; refine (valid_any _ _ _ _ (by omega)).mono ?_; rintro e w1 ⟨rfl, hb1⟩; rw [HV.out])
  go_ret
  exact ⟨rfl, ((Below.refl _ _).alloc (Nat.le_refl _) _).trans (hb1.mono (by simp))⟩
set_option maxHeartbeats 400000 in
theorem has_yes0 (c s p : Int) (w : World) (h1 : p ≤ 9223372036854775807) (hv : vldB c s p = true) :
    Calls Tryz.prog 157 #[fldv c s p, .slice none 0 0] w fun e w' => e = .returned (.bool true) ∧ Below w.heap.size w w' := by
  have HV := Lib.hid hv; clear hv
  go_enter Tryz.func157, Tryz.ntmps157
  go_wp2_with (go_at_call 149; refine (valid_any _ _ _ _ (by omega)).mono ?_; rintro e w1 ⟨rfl, hb1⟩; rw [HV.out])
  go_loop [6, 12] (fun _ i => i = .int .i64 0) (fun _ _ => 0)
  case atStart => rfl
  case round =>
    subst hrel
    go_wp2
    go_ret
    exact ⟨rfl, ((Below.refl _ _).alloc (Nat.le_refl _) _).trans (hb1.mono (by simp))⟩
set_option maxHeartbeats 400000 in
theorem has_yes (c s p : Int) (xs : List Int) (b : Nat) (w : World) (h1 : p ≤ 9223372036854775807) (hv : vldB c s p = true)
    (hn : xs.length ≤ 1000) (hbw : b < w.heap.size) (hcl : ∀ i, i < xs.length → w.cell? ⟨b, i, none⟩ = some (.int .i64 (xs.getD i 0))) :
    Calls Tryz.prog 157 #[fldv c s p, .slice (some ⟨b, 0, none⟩) xs.length xs.length] w fun e w' => e = .returned (.bool (inB s xs)) ∧ Below w.heap.size w w' := by
  have HV := Lib.hid hv; clear hv
  have HC := Lib.hid hcl; clear hcl
  generalize hL : xs.length = n at *
  have HL := Lib.hid hL; clear hL
  go_enter Tryz.func157, Tryz.ntmps157
  go_wp2_with (go_at_call 149; refine (valid_any _ _ _ _ (by omega)).mono ?_; rintro e w1 ⟨rfl, hb1⟩; rw [HV.out])
  obtain ⟨hbc, -⟩ := bcell hb1
  have hcs : w1.cell? ⟨w.heap.size, 1, none⟩ = some (.int .i64 s) := by
    rw [hbc _ _ (by simp)]; go_simp
  have hcx : ∀ i, i < n → w1.cell? ⟨b, i, none⟩ = some (.int .i64 (xs.getD i 0)) := by
    intro i hi
    rw [hbc _ _ (by simp; omega), ← HC.out i hi]
    exact World.cell?_of_block (Below.heap_alloc _ _ _ hbw)
  have HX := Lib.hid hcx; clear hcx HC hbc
  have hfin : Hid (Below w.heap.size w w1) := ((Below.refl _ _).alloc (Nat.le_refl _) _).trans (hb1.mono (by simp))
  clear hb1
  go_loop [6, 12] (fun _ i => ∃ k : Nat, k ≤ n ∧ i = .int .i64 k ∧ Hid (∀ j, j < k → 0 ≤ xs.getD j 0 ∧ xs.getD j 0 < s)) (fun _ i => n - (intOf i).toNat)
  case atStart => exact ⟨0, Nat.zero_le _, rfl, fun j hj => by omega⟩
  case round =>
    obtain ⟨k, hk, rfl, hid⟩ := hrel
    by_cases hlt : k < n
    · have hck := HX.out k hlt
      generalize hx : xs.getD k 0 = x at *
      have Hx := Lib.hid hx; clear hx
      by_cases h2 : x < 0
      · have hI : inB s xs = false := by
          unfold inB; rw [List.all_eq_false]
          have hkl : k < xs.length := by rw [HL.out]; exact hlt
          refine ⟨xs[k], List.getElem_mem hkl, ?_⟩
          have : xs[k] = x := by rw [← Hx.out]; simp [List.getElem?_eq_getElem hkl]
          rw [this]; simp; omega
        have HI := Lib.hid hI; clear hI
        go_wp2
        go_ret
        exact ⟨ret_bool HI.out.symm, hfin.out⟩
      · by_cases h3 : s ≤ x
        · have hI : inB s xs = false := by
            unfold inB; rw [List.all_eq_false]
            have hkl : k < xs.length := by rw [HL.out]; exact hlt
            refine ⟨xs[k], List.getElem_mem hkl, ?_⟩
            have : xs[k] = x := by rw [← Hx.out]; simp [List.getElem?_eq_getElem hkl]
            rw [this]; simp; omega
          have HI := Lib.hid hI; clear hI
          go_wp2
          go_ret
          exact ⟨ret_bool HI.out.symm, hfin.out⟩
        · go_wp2
          refine ⟨⟨k + 1, by omega, by go_num, ?_⟩, by simp [intOf]; omega⟩
          intro j hj
          by_cases hjk : j = k
          · subst hjk; rw [Hx.out]; omega
          · exact hid.out j (by omega)
    · have hI : inB s xs = true := by
        unfold inB; rw [List.all_eq_true]
        intro a ha
        obtain ⟨j, hj, rfl⟩ := List.getElem_of_mem ha
        have := hid.out j (by rw [HL.out] at hj; omega)
        rw [List.getD_eq_getElem?_getD, List.getElem?_eq_getElem hj] at this
        simpa using this
      have HI := Lib.hid hI; clear hI
      obtain rfl : k = n := by omega
      go_wp2
      go_ret
      exact ⟨ret_bool HI.out.symm, hfin.out⟩
end Go.Proofs.YtmnlkganmgcpbaaGreatDoor
namespace Go.Proofs.YtmnlkganmgcpbaaGreatDoor
open Go.RowKit
theorem prod_step (d p A B S R : Nat) (hp : bl p = d + 1) (hA : bl A ≤ d) (hB : bl B ≤ d) (hS : bl S ≤ d) (hid : S ^^^ cmod (cmul A B) p = R) (o : Bool) (ho : decide (B % 2 = 1) = o)
    (A' : Nat) (hA' : A' = cmod (2 * A) p) : bl A' ≤ d ∧ bl (B / 2) ≤ d ∧ bl (if o then S ^^^ A else S) ≤ d ∧ (if o then S ^^^ A else S) ^^^ cmod (cmul A' (B / 2)) p = R := by
  have hp0 : p ≠ 0 := by intro h; subst h; rw [bl_zero] at hp; omega
  refine ⟨?_, ?_, ?_, ?_⟩
  · have := cmod_lt (2 * A) p hp0; rw [hA']; omega
  · exact Nat.le_trans (bl_mono _ _ (Nat.div_le_self B 2)) hB
  · cases o
    · exact hS
    · exact bl_xor_le _ _ _ hS hA
  · rw [← hid, mul_round A B p hp0, hA']
    cases o
    · have : ¬ B % 2 = 1 := by simpa using ho
      simp [this]
    · have : B % 2 = 1 := by simpa using ho
      simp only [this, if_true]
      rw [cmod_small A p (by omega), Nat.xor_assoc]
theorem odd_yes {B : Nat} (hB : B < 2 ^ 62) (h : (bits BinOp.and IntKind.i64 (B : Int) 1 == 1) = true) : decide (B % 2 = 1) = true := by
  rw [i64_and_one B hB] at h
  rw [decide_eq_true_iff]; exact Int.ofNat.inj (eq_of_beq h)
theorem odd_no {B : Nat} (hB : B < 2 ^ 62) (h : (bits BinOp.and IntKind.i64 (B : Int) 1 == 1) = false) : decide (B % 2 = 1) = false := by
  rw [i64_and_one B hB] at h
  rw [decide_eq_false_iff_not]; intro e; rw [e] at h; cases h
theorem dbl_ge {d p A : Nat} {s : Nat} (hs : 2 ^ d = s) (hp : bl p = d + 1) (hA : bl A ≤ d) (h : (s : Int) ≤ (A : Int) * 2) (hd : d ≤ 12) :
    bits BinOp.xor IntKind.i64 ((A : Int) * 2) (p : Int) = ((cmod (2 * A) p : Nat) : Int) := by
  rw [cmod_double A p d hp hA, if_pos (by rw [hs]; omega)]
  have h1 : A < 2 ^ 12 := (bl_le_iff _ _).1 (by omega)
  have h2 : p < 2 ^ 13 := (bl_le_iff _ _).1 (by omega)
  rw [show ((A : Int) * 2) = ((2 * A : Nat) : Int) from by omega]
  exact i64_xor_nat _ _ (by omega) (by omega)
theorem dbl_lt {d p A : Nat} {s : Nat} (hs : 2 ^ d = s) (hp : bl p = d + 1) (hA : bl A ≤ d) (h : (A : Int) * 2 < (s : Int)) :
    (A : Int) * 2 = ((cmod (2 * A) p : Nat) : Int) := by
  rw [cmod_double A p d hp hA, if_neg (by rw [hs]; omega)]; omega
set_option maxHeartbeats 400000 in
theorem product_bin (d s p a b : Nat) (c : Int) (w : World) (hd : d ≤ 12) (hs : 2 ^ d = s) (hp : bl p = d + 1) (ha : bl a ≤ d) (hb : bl b ≤ d) (hp0 : ((p : Int) == 0) = false) :
    Calls Tryz.prog 196 #[fldv c s p, .int .i64 a, .int .i64 b] w fun e w' => e = .returned (.int .i64 (cmod (cmul a b) p)) ∧ Below w.heap.size w w' := by
  have hs4 : s ≤ 4096 := by rw [← hs]; exact Nat.pow_le_pow_right (n := 2) (by omega) hd
  have HS := Lib.hid hs; clear hs
  have HP := Lib.hid hp; clear hp
  have HD := Lib.hid hd; clear hd
  go_enter Tryz.func196, Tryz.ntmps196
  go_wp2_with fail
  go_loop [1, 2, 7] (fun x y z => ∃ A B S : Nat, x = .int .i64 A ∧ y = .int .i64 B ∧ z = .int .i64 S ∧ bl A ≤ d ∧ bl B ≤ d ∧ bl S ≤ d ∧ Hid (S ^^^ cmod (cmul A B) p = cmod (cmul a b) p)) (fun _ y _ => (intOf y).toNat)
  case atStart => exact ⟨a, b, 0, rfl, rfl, rfl, ha, hb, Nat.zero_le _, by show _ = _; simp⟩
  case round =>
    obtain ⟨A, B, S, rfl, rfl, rfl, hA, hB, hS, hid⟩ := hrel
    have hA4 : A < 2 ^ 12 := (bl_le_iff _ _).1 (by have := HD.out; omega)
    have hB4 : B < 2 ^ 12 := (bl_le_iff _ _).1 (by have := HD.out; omega)
    have hS4 : S < 2 ^ 12 := (bl_le_iff _ _).1 (by have := HD.out; omega)
    have hAI : A ≤ 4096 := by omega
    have hBI : B ≤ 4096 := by omega
    have xSA : bits BinOp.xor IntKind.i64 (S : Int) (A : Int) = ((S ^^^ A : Nat) : Int) := i64_xor_nat _ _ (by omega) (by omega)
    have XSA := Lib.hid xSA; clear xSA
    have H62 : Hid (B < 2 ^ 62) := by show B < 2 ^ 62; omega
    clear hA4 hB4 hS4
    go_wp2
    · rename_i h0 h1 h2
      have st := prod_step d p A B S _ HP.out hA hB hS hid.out true (odd_yes H62.out h1) _ rfl
      rw [XSA.out, dbl_ge HS.out HP.out hA h2 HD.out]
      exact ⟨⟨_, B / 2, _, rfl, by go_num, rfl, st.1, st.2.1, st.2.2.1, st.2.2.2⟩, by simp [intOf]; omega⟩
    · rename_i h0 h1 h2
      have st := prod_step d p A B S _ HP.out hA hB hS hid.out true (odd_yes H62.out h1) _ rfl
      rw [XSA.out, dbl_lt HS.out HP.out hA h2]
      exact ⟨⟨_, B / 2, _, rfl, by go_num, rfl, st.1, st.2.1, st.2.2.1, st.2.2.2⟩, by simp [intOf]; omega⟩
    · rename_i h0 h1 h2
      have st := prod_step d p A B S _ HP.out hA hB hS hid.out false (odd_no H62.out h1) _ rfl
      rw [dbl_ge HS.out HP.out hA h2 HD.out]
      exact ⟨⟨_, B / 2, _, rfl, by go_num, rfl, st.1, st.2.1, st.2.2.1, st.2.2.2⟩, by simp [intOf]; omega⟩
    · rename_i h0 h1 h2
      have st := prod_step d p A B S _ HP.out hA hB hS hid.out false (odd_no H62.out h1) _ rfl
      rw [dbl_lt HS.out HP.out hA h2]
      exact ⟨⟨_, B / 2, _, rfl, by go_num, rfl, st.1, st.2.1, st.2.2.1, st.2.2.2⟩, by simp [intOf]; omega⟩
    · rename_i h0 h1
      obtain rfl : B = 0 := by omega
      go_ret
      refine ⟨ret_int ?_, (Below.refl _ _).alloc (Nat.le_refl _) _⟩
      have := hid.out
      have hpp := HP.out
      rw [cmul_zero, cmod_small 0 p (by rw [bl_zero]; omega), Nat.xor_zero] at this
      rw [← this]
set_option maxHeartbeats 400000 in
theorem product_prime (s a b : Nat) (c : Int) (w : World) (hs : 2 < s) (hs2 : s ≤ 4096) (ha : a < s) (hb : b < s) :
    Calls Tryz.prog 196 #[fldv c s 0, .int .i64 a, .int .i64 b] w fun e w' => e = .returned (.int .i64 (a * b % s : Nat)) ∧ Below w.heap.size w w' := by
  have hab : a * b ≤ 4096 * 4096 := Nat.mul_le_mul (by omega) (by omega)
  have h0 : (0 : Int) ≤ (a : Int) * b := by have : (0 : Int) ≤ ((a * b : Nat) : Int) := by omega
                                            simpa using this
  have h1 : (a : Int) * b ≤ 16777216 := by have : ((a * b : Nat) : Int) ≤ 16777216 := by omega
                                           simpa using this
  go_enter Tryz.func196, Tryz.ntmps196
  go_wp2
  go_ret
  exact ⟨ret_int (by simp), (Below.refl _ _).alloc (Nat.le_refl _) _⟩
theorem el_bl {S : Nat} (a d : Nat) (hs : S = 2 ^ d) (ha : a < S) : bl a ≤ d := (bl_le_iff _ _).2 (by rw [← hs]; exact ha)
theorem product_any (C S P : Nat) (a b : Int) (w : World) (hv : VF C S P) (ha0 : 0 ≤ a) (ha : a < S) (hb0 : 0 ≤ b) (hb : b < S) :
    Calls Tryz.prog 196 #[fldv C S P, .int .i64 a, .int .i64 b] w fun e w' => e = .returned (.int .i64 (fmulN S P a.toNat b.toNat : Nat)) ∧ Below w.heap.size w w' := by
  obtain ⟨A, rfl⟩ := Int.eq_ofNat_of_zero_le ha0
  obtain ⟨B, rfl⟩ := Int.eq_ofNat_of_zero_le hb0
  rw [Int.toNat_natCast, Int.toNat_natCast]
  unfold fmulN
  rcases hv with ⟨hp, hc, h2, h4, -⟩ | ⟨d, h1, h2, h3, h4, -, -⟩
  · subst hp; rw [if_pos rfl]; exact product_prime S A B C w h2 h4 (by omega) (by omega)
  · have hp0 : P ≠ 0 := by intro h; subst h; rw [bl_zero] at h3; omega
    rw [if_neg hp0]
    exact product_bin d S P A B C w h2 h4.symm h3 (el_bl A d h4 (by omega)) (el_bl B d h4 (by omega)) (beq_false_of_ne (by omega))
end Go.Proofs.YtmnlkganmgcpbaaGreatDoor
namespace Go.Proofs.YtmnlkganmgcpbaaGreatDoor
set_option linter.unusedVariables false
open Go.RowKit
def InW (w : World) (c s p : Int) (wr : World) : Prop :=
  Below w.heap.size w wr ∧ w.heap.size < wr.heap.size ∧ wr.cell? ⟨w.heap.size, 0, none⟩ = some (.int .i64 c) ∧ wr.cell? ⟨w.heap.size, 1, none⟩ = some (.int .i64 s) ∧ wr.cell? ⟨w.heap.size, 2, none⟩ = some (.int .i64 p)
theorem InW.start (w : World) (c s p : Int) (t : Nat) : InW w c s p (w.alloc (.cells #[.int .i64 c, .int .i64 s, .int .i64 p] t)) := by
  refine ⟨(Below.refl _ _).alloc (Nat.le_refl _) _, by simp, ?_, ?_, ?_⟩ <;> go_simp
theorem InW.step {w wr w1 : World} {c s p : Int} (h : InW w c s p wr) (hb : Below wr.heap.size wr w1) : InW w c s p w1 := by
  obtain ⟨h0, h1, h2, h3, h4⟩ := h
  exact ⟨h0.trans (hb.mono (by omega)), Nat.lt_of_lt_of_le h1 hb.size, (hb.cell h1).trans h2, (hb.cell h1).trans h3, (hb.cell h1).trans h4⟩
theorem InW.drew {w wr : World} {c s p : Int} (h : InW w c s p wr) : InW w c s p wr.drew := ⟨h.1.drew, h.2.1, h.2.2.1, h.2.2.2.1, h.2.2.2.2⟩
theorem InW.below {w wr : World} {c s p : Int} (h : InW w c s p wr) : Below w.heap.size w wr := h.1
end Go.Proofs.YtmnlkganmgcpbaaGreatDoor
namespace Go.Proofs.YtmnlkganmgcpbaaGreatDoor
open Go.RowKit
set_option linter.unusedVariables false
set_option maxHeartbeats 400000 in
theorem order_nat (C S P a k : Nat) (w : World) (hv : VF C S P) (ha : a < S) (hk : OrdN S P a k) (hk4 : k ≤ 4096) :
    Calls Tryz.prog 221 #[fldv C S P, .int .i64 a] w fun e w' => e = .returned (.int .i64 k) ∧ Below w.heap.size w w' := by
  have hS := hv.le
  have hS2 := hv.two_le
  have HV := Lib.hid hv; clear hv
  have hk1 := hk.1
  have HK := Lib.hid hk; clear hk
  go_enter Tryz.func221, Tryz.ntmps221
  go_wp2_with fail
  go_loopw [5, 6] (fun y x wr => ∃ j X : Nat, y = .int .i64 j ∧ x = .int .i64 X ∧ 1 ≤ j ∧ j ≤ k ∧ X < S ∧ Hid (X = fpowN S P a j) ∧ InW w C S P wr) (fun y _ _ => k - (intOf y).toNat)
  case atStart => exact ⟨1, a, rfl, rfl, by omega, by omega, ha, (one_mulN HV.out a ha).symm, InW.start w C S P _⟩
  case round =>
    obtain ⟨j, X, rfl, rfl, hj1, hj, hX, hid, hin⟩ := hrel
    obtain ⟨hbl, hsz, hc0, hc1, hc2⟩ := id hin
    have HIN := Lib.hid hin; clear hin
    have HBL := Lib.hid hbl; clear hbl
    by_cases h1 : X = 1
    · subst h1
      have hjk : j = k := by
        by_cases h : j < k
        · exact absurd hid.out.symm (HK.out.2.2 j hj1 h)
        · omega
      have HJ := Lib.hid hjk; clear hjk
      go_wp2_with fail
      go_ret
      exact ⟨ret_int (by rw [HJ.out]), HBL.out⟩
    · have hjk : j < k := by
        rcases Nat.lt_or_ge j k with h | h
        · exact h
        · exfalso; apply h1
          have : j = k := by omega
          subst this
          rw [hid.out]; exact HK.out.2.1
      have hne : (((X : Nat) : Int) != 1) = true := by rw [bne_iff_ne]; omega
      have HE : Hid (fmulN S P X a = fpowN S P a (j + 1)) := by show _ = fmulN S P (fpowN S P a j) a; rw [← hid.out]
      clear h1 hid
      go_wp2_with (go_at_call 196; refine (product_any C S P _ _ _ HV.out (by omega) (by omega) (by omega) (by omega)).mono ?_; rintro e w1 ⟨rfl, hb1⟩)
      exact ⟨⟨j + 1, fmulN S P X a, by go_num, rfl, by omega, by omega, fmul_lt HV.out _ _, HE.out, HIN.out.step hb1⟩, by simp [intOf]; omega⟩
theorem order_any (C S P : Nat) (a : Int) (w : World) (hv : VF C S P) (ha0 : 0 < a) (ha : a < S) :
    Calls Tryz.prog 221 #[fldv C S P, .int .i64 a] w fun e w' => e = .returned (.int .i64 (ordF S P a.toNat : Nat)) ∧ Below w.heap.size w w' := by
  obtain ⟨A, rfl⟩ := Int.eq_ofNat_of_zero_le (Int.le_of_lt ha0)
  have hk := ordF_spec hv (a := A) (by omega) (by omega)
  have := hv.le
  rw [Int.toNat_natCast]
  exact order_nat C S P A _ w hv (by omega) hk.1 (by have := hk.2; omega)
theorem hold_of {w : World} {c s p : Int} {wr : World} (h : InW w c s p wr) : (wr.cell? ⟨w.heap.size, 0, none⟩ = some (.int .i64 c) ∧ wr.cell? ⟨w.heap.size, 1, none⟩ = some (.int .i64 s) ∧ wr.cell? ⟨w.heap.size, 2, none⟩ = some (.int .i64 p)) ∧ InW w c s p wr := ⟨h.2.2, h⟩
set_option maxHeartbeats 1000000 in
theorem generator_any (C S P : Nat) (w : World) (hv : VF C S P) :
    Calls Tryz.prog 195 #[fldv C S P] w fun e w' => e = .returned (.int .i64 (genF S P : Nat)) ∧ Below w.heap.size w w' := by
  have hS := hv.le
  have hS2 := hv.two_le
  have hg := genF_spec hv
  have hg1 := hg.1
  have hg2 := hg.2.1
  have HV := Lib.hid hv; clear hv
  have HG := Lib.hid hg; clear hg
  go_enter Tryz.func195, Tryz.ntmps195
  go_wp2_with fail
  go_loopw [3] (fun x wr => ∃ X : Nat, x = .int .i64 X ∧ 1 ≤ X ∧ X ≤ genF S P ∧ InW w C S P wr) (fun x _ => genF S P - (intOf x).toNat)
  case atStart => exact ⟨1, rfl, by omega, by omega, InW.start w C S P _⟩
  case round =>
    obtain ⟨X, rfl, hX1, hX, hin⟩ := hrel
    obtain ⟨hbl, hsz, hc0, hc1, hc2⟩ := id hin
    have HIN := Lib.hid hin; clear hin
    have HBL := Lib.hid hbl; clear hbl
    have hXS : X < S := by omega
    have HG2 := Lib.hid hg2; clear hg2
    by_cases hlt : X < genF S P
    · have hne : (((ordF S P X : Nat) : Int) != (S : Int) - 1) = true := by
        rw [bne_iff_ne]; intro e
        have h1 := ordF_spec HV.out (a := X) (by have := HG2.out; omega) (by omega)
        have e2 : ordF S P X = S - 1 := by omega
        rw [e2] at h1
        exact HG.out.2.2.2 X hX1 hlt h1.1
      have hwr : IntKind.i64.wrap ((S : Int) - 1) = (S : Int) - 1 := IntWalk.i64_in _ (by omega)
      go_wp2_with fail
      go_region_held3 (fun w' => (w'.cell? ⟨w.heap.size, 0, none⟩ = some (.int .i64 C) ∧ w'.cell? ⟨w.heap.size, 1, none⟩ = some (.int .i64 S) ∧ w'.cell? ⟨w.heap.size, 2, none⟩ = some (.int .i64 P)) ∧ InW w C S P w') (first | exact hold_of (InW.drew HIN.out) | exact hold_of (by assumption)) (first | (go_at_call 221; refine (order_any C S P _ _ HV.out (by omega) (by have := HG2.out; omega)).mono ?_; rintro e w1 ⟨rfl, hb1⟩; have hin1 := InW.step (And.right (by assumption)) hb1))
      all_goals clear hwr
      all_goals go_wp2
      all_goals exact ⟨⟨X + 1, by go_num, by omega, by omega, And.right (by assumption)⟩, by simp [intOf]; omega⟩
    · have hX2 : X = genF S P := by omega
      have hne : (((ordF S P X : Nat) : Int) != (S : Int) - 1) = false := by
        rw [hX2, ordF_of HG.out.2.2.1, bne_eq_false_iff_eq]; omega
      have HX := Lib.hid hX2; clear hX2
      have hwr : IntKind.i64.wrap ((S : Int) - 1) = (S : Int) - 1 := IntWalk.i64_in _ (by omega)
      go_wp2_with fail
      go_region_held3 (fun w' => (w'.cell? ⟨w.heap.size, 0, none⟩ = some (.int .i64 C) ∧ w'.cell? ⟨w.heap.size, 1, none⟩ = some (.int .i64 S) ∧ w'.cell? ⟨w.heap.size, 2, none⟩ = some (.int .i64 P)) ∧ InW w C S P w') (first | exact hold_of (InW.drew HIN.out) | exact hold_of (by assumption)) (first | (go_at_call 221; refine (order_any C S P _ _ HV.out (by omega) (by have := HG2.out; omega)).mono ?_; rintro e w1 ⟨rfl, hb1⟩; have hin1 := InW.step (And.right (by assumption)) hb1))
      all_goals clear hwr
      all_goals go_wp2
      all_goals go_ret
      all_goals exact ⟨ret_int (by rw [HX.out]), InW.below (And.right (by assumption))⟩
end Go.Proofs.YtmnlkganmgcpbaaGreatDoor
namespace Go.Proofs.YtmnlkganmgcpbaaGreatDoor
open Go.RowKit
set_option linter.unusedVariables false
theorem has2_any (c s p a b : Int) (k : Nat) (w : World) (hp : p ≤ 9223372036854775807) (hk : k < w.heap.size) (h0 : w.cell? ⟨k, 0, none⟩ = some (.int .i64 a)) (h1 : w.cell? ⟨k, 1, none⟩ = some (.int .i64 b)) :
    Calls Tryz.prog 157 #[fldv c s p, .slice (some ⟨k, 0, none⟩) 2 2] w fun e w' => e = .returned (.bool (vldB c s p && inB s [a, b])) ∧ Below w.heap.size w w' := by
  cases hv : vldB c s p
  · exact has_no c s p _ w hp hv
  · refine has_yes c s p [a, b] k w hp hv (by simp) hk ?_
    intro i hi
    match i, hi with
    | 0, _ => exact h0
    | 1, _ => exact h1
    | n + 2, hi => simp at hi; omega
theorem has0_any (c s p : Int) (w : World) (hp : p ≤ 9223372036854775807) :
    Calls Tryz.prog 157 #[fldv c s p, .slice none 0 0] w fun e w' => e = .returned (.bool (vldB c s p)) ∧ Below w.heap.size w w' := by
  cases hv : vldB c s p
  · exact has_no c s p _ w hp hv
  · exact has_yes0 c s p w hp hv
abbrev tup (x : Int × Int) : Value := .tuple #[.int .i64 x.1, .int .i64 x.2]
theorem vld_nat {c s p : Int} (h : vldB c s p = true) : ∃ C S P : Nat, c = C ∧ s = S ∧ p = P ∧ VF C S P := by
  unfold vldB at h
  by_cases hp : p = 0
  · rw [if_pos hp] at h
    simp only [Bool.and_eq_true, decide_eq_true_iff] at h
    obtain ⟨⟨⟨h1, h2⟩, h3⟩, h4⟩ := h
    refine ⟨c.toNat, s.toNat, 0, by omega, by omega, by omega, .inl ⟨rfl, by omega, by omega, by omega, h4⟩⟩
  · rw [if_neg hp] at h
    simp only [Bool.and_eq_true, decide_eq_true_iff] at h
    obtain ⟨⟨⟨⟨h1, h2⟩, h3⟩, h4⟩, h5⟩ := h
    have hb := two_le_bl p h1
    have hs : s.toNat = 2 ^ (bl p.toNat - 1) := by rw [h4]; exact Int.toNat_natCast _
    have hs2 : s = (s.toNat : Int) := (Int.toNat_of_nonneg (by rw [h4]; exact Int.natCast_nonneg _)).symm
    exact ⟨2, s.toNat, p.toNat, h3, hs2, by omega, .inr ⟨bl p.toNat - 1, by omega, by omega, by omega, hs, rfl, h5⟩⟩
end Go.Proofs.YtmnlkganmgcpbaaGreatDoor
namespace Go.Proofs.YtmnlkganmgcpbaaGreatDoor
open Go.RowKit
set_option linter.unusedVariables false
theorem InW.alloc {w wr : World} {c s p : Int} (h : InW w c s p wr) (o : Obj) : InW w c s p (wr.alloc o) := by
  have := Below.heap_alloc wr o w.heap.size h.2.1
  refine ⟨h.1.alloc h.1.size _, by have := h.2.1; simp; omega, ?_, ?_, ?_⟩
  · exact (World.cell?_of_block this).trans h.2.2.1
  · exact (World.cell?_of_block this).trans h.2.2.2.1
  · exact (World.cell?_of_block this).trans h.2.2.2.2
def isB (s a : Int) : Bool := decide (0 ≤ a) && decide (a < s)
def ok1 (c s p a : Int) : Bool := vldB c s p && isB s a
def ok2 (c s p a b : Int) : Bool := vldB c s p && isB s a && isB s b
theorem ok2_eq (c s p a b : Int) : (vldB c s p && inB s [a, b]) = ok2 c s p a b := by simp [inB, ok2, isB, Bool.and_assoc]
theorem ok1_nat {c s p a : Int} (h : ok1 c s p a = true) : ∃ C S P A : Nat, c = C ∧ s = S ∧ p = P ∧ a = A ∧ A < S ∧ VF C S P := by
  unfold ok1 isB at h
  simp only [Bool.and_eq_true, decide_eq_true_iff] at h
  obtain ⟨C, S, P, rfl, rfl, rfl, hv⟩ := vld_nat h.1
  exact ⟨C, S, P, a.toNat, rfl, rfl, rfl, by omega, by omega, hv⟩
theorem ok2_nat {c s p a b : Int} (h : ok2 c s p a b = true) : ∃ C S P A B : Nat, c = C ∧ s = S ∧ p = P ∧ a = A ∧ b = B ∧ A < S ∧ B < S ∧ VF C S P := by
  unfold ok2 isB at h
  simp only [Bool.and_eq_true, decide_eq_true_iff] at h
  obtain ⟨C, S, P, rfl, rfl, rfl, hv⟩ := vld_nat h.1.1
  exact ⟨C, S, P, a.toNat, b.toNat, rfl, rfl, rfl, by omega, by omega, by omega, by omega, hv⟩
theorem vld_of {C S P : Nat} (h : VF C S P) : vldB C S P = true := by
  have h2 := h.two_le
  unfold vldB
  rcases h with ⟨h1, h2, h3, h4, h5⟩ | ⟨d, h1, h2, h3, h4, h5, h6⟩
  · subst h1; subst h2; rw [if_pos (by rfl)]; simp [h5]; omega
  · have hp0 : ¬ ((P : Nat) : Int) = 0 := by intro h; have : P = 0 := by omega
                                             subst this; rw [bl_zero] at h3; omega
    have hp2 : 2 ≤ P := by
      rcases Nat.lt_or_ge P 2 with h | h
      · have : P = 1 := by omega
        subst this; have e : bl 1 = 1 := by decide
        omega
      · exact h
    rw [if_neg hp0]
    subst h4; subst h5
    simp only [Int.toNat_natCast, h3, h6, Bool.and_eq_true, decide_eq_true_iff]
    refine ⟨⟨⟨⟨by omega, by omega⟩, rfl⟩, by simp⟩, trivial⟩
theorem isB_of {S A : Nat} (h : A < S) : isB S A = true := by unfold isB; simp; omega
theorem ok2_of {C S P A B : Nat} (h : VF C S P) (ha : A < S) (hb : B < S) : ok2 C S P A B = true := by unfold ok2; rw [vld_of h, isB_of ha, isB_of hb]; rfl
theorem ret_tup {a b v e : Int} (h1 : a = v) (h2 : b = e) : Ending.returned (.tuple #[.int .i64 a, .int .i64 b]) = .returned (tup (v, e)) := by rw [h1, h2]
def subR (c s p a b : Int) : Int × Int := if ok2 c s p a b then ((fsubN s.toNat p.toNat a.toNat b.toNat : Nat), 0) else (0, 1)
def mulR (c s p a b : Int) : Int × Int := if ok2 c s p a b then ((fmulN s.toNat p.toNat a.toNat b.toNat : Nat), 0) else (0, 1)
noncomputable def genR (c s p : Int) : Int × Int := if vldB c s p then ((genF s.toNat p.toNat : Nat), 0) else (0, 1)
set_option maxHeartbeats 400000 in
theorem Sub_no (c s p a b : Int) (w : World) (hp : p ≤ 9223372036854775807) (h : ok2 c s p a b = false) :
    Calls Tryz.prog 117 #[fldv c s p, .int .i64 a, .int .i64 b] w fun e w' => e = .returned (tup (0, 1)) ∧ Below w.heap.size w w' := by
  have HH : Hid ((vldB c s p && inB s [a, b]) = false) := (ok2_eq c s p a b).trans h
  clear h
  go_enter Tryz.func117, Tryz.ntmps117
  go_wp2_with fail
  refine (has2_any c s p a b _ _ hp (by simp) (by go_simp) (by go_simp)).mono ?_
  rintro e w1 ⟨rfl, hb1⟩
  rw [HH.out]
  have hin1 := InW.step (InW.alloc (InW.start w c s p 89) (.cells #[.int .i64 a, .int .i64 b] 3)) hb1
  obtain ⟨-, hsz1, hc10, hc11, hc12⟩ := id hin1
  have HIN1 := Lib.hid hin1; clear hin1 hb1
  go_wp2_with fail
  go_ret2
  exact ⟨rfl, HIN1.out.below⟩
set_option maxHeartbeats 400000 in
theorem Mul_no (c s p a b : Int) (w : World) (hp : p ≤ 9223372036854775807) (h : ok2 c s p a b = false) :
    Calls Tryz.prog 159 #[fldv c s p, .int .i64 a, .int .i64 b] w fun e w' => e = .returned (tup (0, 1)) ∧ Below w.heap.size w w' := by
  have HH : Hid ((vldB c s p && inB s [a, b]) = false) := (ok2_eq c s p a b).trans h
  clear h
  go_enter Tryz.func159, Tryz.ntmps159
  go_wp2_with fail
  refine (has2_any c s p a b _ _ hp (by simp) (by go_simp) (by go_simp)).mono ?_
  rintro e w1 ⟨rfl, hb1⟩
  rw [HH.out]
  have hin1 := InW.step (InW.alloc (InW.start w c s p 89) (.cells #[.int .i64 a, .int .i64 b] 3)) hb1
  obtain ⟨-, hsz1, hc10, hc11, hc12⟩ := id hin1
  have HIN1 := Lib.hid hin1; clear hin1 hb1
  go_wp2_with fail
  go_ret2
  exact ⟨rfl, HIN1.out.below⟩
set_option maxHeartbeats 400000 in
theorem Generator_no (c s p : Int) (w : World) (hp : p ≤ 9223372036854775807) (h : vldB c s p = false) :
    Calls Tryz.prog 158 #[fldv c s p] w fun e w' => e = .returned (tup (0, 1)) ∧ Below w.heap.size w w' := by
  have HH := Lib.hid h
  clear h
  go_enter Tryz.func158, Tryz.ntmps158
  go_wp2_with fail
  refine (has0_any c s p _ hp).mono ?_
  rintro e w1 ⟨rfl, hb1⟩
  rw [HH.out]
  have hin1 := InW.step (InW.start w c s p 89) hb1
  obtain ⟨-, hsz1, hc10, hc11, hc12⟩ := id hin1
  have HIN1 := Lib.hid hin1; clear hin1 hb1
  go_wp2_with fail
  go_ret2
  exact ⟨rfl, HIN1.out.below⟩
theorem VF.pbd {C S P : Nat} (h : VF C S P) : (P : Int) ≤ 9223372036854775807 := by
  rcases h with ⟨h1, _⟩ | ⟨d, _, h1, h2, _⟩
  · omega
  · have := (bl_le_iff P 13).1 (by omega); omega
set_option maxHeartbeats 1000000 in
theorem Sub_y0 (C S P A B : Nat) (w : World) (hv : VF C S P) (ha : A < S) (hb : B < S) (h0 : P = 0) :
    Calls Tryz.prog 117 #[fldv C S P, .int .i64 A, .int .i64 B] w fun e w' => e = .returned (tup ((fsubN S P A B : Nat), 0)) ∧ Below w.heap.size w w' := by
  have hS := hv.le
  have hS2 := hv.two_le
  have hP : (P : Int) ≤ 9223372036854775807 := hv.pbd
  have HH : Hid ((vldB C S P && inB S [(A : Int), (B : Int)]) = true) := (ok2_eq _ _ _ _ _).trans (ok2_of hv ha hb)
  have hp0 : (((P : Nat) : Int) != 0) = false := by rw [h0]; rfl
  have HE : Hid (((A : Int) - B + S) % S = ((fsubN S P A B : Nat) : Int)) := by
    show _ = _
    unfold fsubN; rw [if_pos h0, Int.natCast_emod]
    exact congrArg (fun x => x % (S : Int)) (by omega)
  clear h0 hv
  go_enter Tryz.func117, Tryz.ntmps117
  go_wp2_with fail
  refine (has2_any C S P A B _ _ hP (by simp) (by go_simp) (by go_simp)).mono ?_
  rintro e w1 ⟨rfl, hb1⟩
  rw [HH.out]
  have hin1 := InW.step (InW.alloc (InW.start w C S P 89) (.cells #[.int .i64 A, .int .i64 B] 3)) hb1
  obtain ⟨-, hsz1, hc10, hc11, hc12⟩ := id hin1
  have HIN1 := Lib.hid hin1; clear hin1 hb1
  go_wp2_with fail
  go_ret2
  exact ⟨ret_tup HE.out rfl, HIN1.out.below⟩
set_option maxHeartbeats 1000000 in
theorem Sub_y1 (C S P A B : Nat) (w : World) (hv : VF C S P) (ha : A < S) (hb : B < S) (h0 : P ≠ 0) :
    Calls Tryz.prog 117 #[fldv C S P, .int .i64 A, .int .i64 B] w fun e w' => e = .returned (tup ((fsubN S P A B : Nat), 0)) ∧ Below w.heap.size w w' := by
  have hS := hv.le
  have hS2 := hv.two_le
  have hP : (P : Int) ≤ 9223372036854775807 := hv.pbd
  have HH : Hid ((vldB C S P && inB S [(A : Int), (B : Int)]) = true) := (ok2_eq _ _ _ _ _).trans (ok2_of hv ha hb)
  have hp0 : (((P : Nat) : Int) != 0) = true := by rw [bne_iff_ne]; omega
  have HE : Hid (bits BinOp.xor IntKind.i64 (A : Int) (B : Int) = ((fsubN S P A B : Nat) : Int)) := by
    show _ = _
    unfold fsubN; rw [if_neg h0]; exact i64_xor_nat A B (by omega) (by omega)
  clear h0 hv
  go_enter Tryz.func117, Tryz.ntmps117
  go_wp2_with fail
  refine (has2_any C S P A B _ _ hP (by simp) (by go_simp) (by go_simp)).mono ?_
  rintro e w1 ⟨rfl, hb1⟩
  rw [HH.out]
  have hin1 := InW.step (InW.alloc (InW.start w C S P 89) (.cells #[.int .i64 A, .int .i64 B] 3)) hb1
  obtain ⟨-, hsz1, hc10, hc11, hc12⟩ := id hin1
  have HIN1 := Lib.hid hin1; clear hin1 hb1
  go_wp2_with fail
  go_ret2
  exact ⟨ret_tup HE.out rfl, HIN1.out.below⟩
set_option maxHeartbeats 1000000 in
theorem Mul_yes (C S P A B : Nat) (w : World) (hv : VF C S P) (ha : A < S) (hb : B < S) :
    Calls Tryz.prog 159 #[fldv C S P, .int .i64 A, .int .i64 B] w fun e w' => e = .returned (tup ((fmulN S P A B : Nat), 0)) ∧ Below w.heap.size w w' := by
  have hS := hv.le
  have hS2 := hv.two_le
  have hP : (P : Int) ≤ 9223372036854775807 := hv.pbd
  have HH : Hid ((vldB C S P && inB S [(A : Int), (B : Int)]) = true) := (ok2_eq _ _ _ _ _).trans (ok2_of hv ha hb)
  have HV := Lib.hid hv; clear hv
  go_enter Tryz.func159, Tryz.ntmps159
  go_wp2_with fail
  refine (has2_any C S P A B _ _ hP (by simp) (by go_simp) (by go_simp)).mono ?_
  rintro e w1 ⟨rfl, hb1⟩
  rw [HH.out]
  have hin1 := InW.step (InW.alloc (InW.start w C S P 89) (.cells #[.int .i64 A, .int .i64 B] 3)) hb1
  obtain ⟨-, hsz1, hc10, hc11, hc12⟩ := id hin1
  have HIN1 := Lib.hid hin1; clear hin1 hb1
  go_wp2_with fail
  refine (product_any C S P _ _ _ HV.out (by omega) (by omega) (by omega) (by omega)).mono ?_
  rintro e w2 ⟨rfl, hb2⟩
  have hin2 := InW.step HIN1.out hb2
  obtain ⟨-, hsz2, hc20, hc21, hc22⟩ := id hin2
  have HIN2 := Lib.hid hin2; clear hin2 hb2
  go_wp2_with fail
  go_ret2
  exact ⟨rfl, HIN2.out.below⟩
set_option maxHeartbeats 1000000 in
theorem Generator_yes (C S P : Nat) (w : World) (hv : VF C S P) :
    Calls Tryz.prog 158 #[fldv C S P] w fun e w' => e = .returned (tup ((genF S P : Nat), 0)) ∧ Below w.heap.size w w' := by
  have hS := hv.le
  have hS2 := hv.two_le
  have hP : (P : Int) ≤ 9223372036854775807 := hv.pbd
  have HH : Hid (vldB C S P = true) := vld_of hv
  have HV := Lib.hid hv; clear hv
  go_enter Tryz.func158, Tryz.ntmps158
  go_wp2_with fail
  refine (has0_any C S P _ hP).mono ?_
  rintro e w1 ⟨rfl, hb1⟩
  rw [HH.out]
  have hin1 := InW.step (InW.start w C S P 89) hb1
  obtain ⟨-, hsz1, hc10, hc11, hc12⟩ := id hin1
  have HIN1 := Lib.hid hin1; clear hin1 hb1
  go_wp2_with fail
  refine (generator_any C S P _ HV.out).mono ?_
  rintro e w2 ⟨rfl, hb2⟩
  have hin2 := InW.step HIN1.out hb2
  obtain ⟨-, hsz2, hc20, hc21, hc22⟩ := id hin2
  have HIN2 := Lib.hid hin2; clear hin2 hb2
  go_wp2_with fail
  go_ret2
  exact ⟨rfl, HIN2.out.below⟩
theorem Sub_any (c s p a b : Int) (w : World) (hs : s ≤ 9223372036854775807) (hp : p ≤ 9223372036854775807) :
    Calls Tryz.prog 117 #[fldv c s p, .int .i64 a, .int .i64 b] w fun e w' => e = .returned (tup (subR c s p a b)) ∧ Below w.heap.size w w' := by
  cases h : ok2 c s p a b
  · unfold subR; rw [h]; exact Sub_no c s p a b w hp h
  · unfold subR; rw [h]
    obtain ⟨C, S, P, A, B, rfl, rfl, rfl, rfl, rfl, ha, hb, hv⟩ := ok2_nat h
    simp only [Int.toNat_natCast, if_true]
    by_cases h0 : P = 0
    · exact Sub_y0 C S P A B w hv ha hb h0
    · exact Sub_y1 C S P A B w hv ha hb h0
theorem Mul_any (c s p a b : Int) (w : World) (hs : s ≤ 9223372036854775807) (hp : p ≤ 9223372036854775807) :
    Calls Tryz.prog 159 #[fldv c s p, .int .i64 a, .int .i64 b] w fun e w' => e = .returned (tup (mulR c s p a b)) ∧ Below w.heap.size w w' := by
  cases h : ok2 c s p a b
  · unfold mulR; rw [h]; exact Mul_no c s p a b w hp h
  · unfold mulR; rw [h]
    obtain ⟨C, S, P, A, B, rfl, rfl, rfl, rfl, rfl, ha, hb, hv⟩ := ok2_nat h
    simp only [Int.toNat_natCast, if_true]
    exact Mul_yes C S P A B w hv ha hb
theorem Generator_any (c s p : Int) (w : World) (hs : s ≤ 9223372036854775807) (hp : p ≤ 9223372036854775807) :
    Calls Tryz.prog 158 #[fldv c s p] w fun e w' => e = .returned (tup (genR c s p)) ∧ Below w.heap.size w w' := by
  cases h : vldB c s p
  · unfold genR; rw [h]; exact Generator_no c s p w hp h
  · unfold genR; rw [h]
    obtain ⟨C, S, P, rfl, rfl, rfl, hv⟩ := vld_nat h
    simp only [Int.toNat_natCast, if_true]
    exact Generator_yes C S P w hv
end Go.Proofs.YtmnlkganmgcpbaaGreatDoor
