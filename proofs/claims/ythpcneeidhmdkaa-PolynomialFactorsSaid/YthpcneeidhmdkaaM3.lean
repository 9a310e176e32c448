import Derived.Test.YthpcneeidhmdkaaM2
import Derived.Deep.RegionHeld3
namespace Go.Proofs.Ythpcneeidhmdkaa
open Go.RowKit
/-! the reference's Valid -/
theorem bl_two_pow (n : Nat) : bl (2 ^ n) = n + 1 := bl_eq _ _ (Nat.le_refl _) (by rw [Nat.pow_succ]; have := Nat.two_pow_pos n; omega)
/-- the reference's answer in the case Char == 2 -/
theorem vldB_two (s p : Int) : vldB 2 s p = (decide (2 ≤ bl s.toNat) && decide (bl s.toNat ≤ 13) && decide (s = ((2 ^ (bl s.toNat - 1) : Nat) : Int)) && rirrB p ((bl s.toNat : Int) - 1)) := by
  unfold vldB rirrB
  by_cases hp0 : p = 0
  · subst hp0
    rw [if_pos rfl]
    have e0 : bl (0 : Int).toNat = 0 := rfl
    rw [e0]
    by_cases h1 : 2 ≤ bl s.toNat
    · have h2 : ¬ ((0 : Nat) : Int) = (bl s.toNat : Int) - 1 + 1 := by omega
      rw [decide_eq_false h2]
      have h3 : ¬ (2 < s ∧ (2 : Int) = s) := by omega
      by_cases h4 : 2 < s
      · have h5 : ¬ (2 : Int) = s := by omega
        simp [h5]
      · simp [h4]
    · have h5 : ¬ 2 < s := by
        intro h; have := two_le_bl s (by omega); omega
      simp [h1, h5]
  · rw [if_neg hp0, Bool.eq_iff_iff]
    simp only [Bool.and_eq_true, decide_eq_true_iff]
    constructor
    · rintro ⟨⟨⟨⟨h1, h2⟩, -⟩, h4⟩, h5⟩
      have hb := two_le_bl p h1
      have hs : bl s.toNat = bl p.toNat := by
        rw [h4, Int.toNat_natCast, bl_two_pow]; omega
      rw [hs]
      exact ⟨⟨⟨hb, h2⟩, h4⟩, ⟨by omega, by omega⟩, h5⟩
    · rintro ⟨⟨⟨h1, h2⟩, h3⟩, ⟨h4, h5⟩, h6⟩
      have hs : bl p.toNat = bl s.toNat := by omega
      rw [hs]
      have hp : 2 ≤ p := by
        have := pow_bl_le p.toNat (by omega)
        rw [hs] at this
        have h7 : 2 ^ 1 ≤ 2 ^ (bl s.toNat - 1) := Nat.pow_le_pow_right (by omega) (by omega)
        omega
      exact ⟨⟨⟨⟨hp, h2⟩, trivial⟩, h3⟩, h6⟩

set_option maxHeartbeats 400000 in
theorem rvalid_p1 (s p : Int) (w : World) (hs : s ≤ 9223372036854775807) (h : bl s.toNat < 2) :
    Calls Try.prog 59 #[fldv 2 s p] w fun e w' => e = .returned (.bool (vldB 2 s p)) ∧ Below w.heap.size w w' := by
  have hI : vldB 2 s p = false := by rw [vldB_two]; simp; omega
  have HI := Lib.hid hI; clear hI
  go_enter Try.func59, Try.ntmps59
  go_wp2_with (go_at_call 85; refine (rdegree_any _ _ (by omega)).mono ?_; rintro e w' ⟨rfl, rfl⟩)
  go_ret
  exact ⟨ret_bool HI.out.symm, (Below.refl _ _).alloc (Nat.le_refl _) _⟩
set_option maxHeartbeats 400000 in
theorem rvalid_p2 (s p : Int) (w : World) (hs : s ≤ 9223372036854775807) (h : 13 < bl s.toNat) :
    Calls Try.prog 59 #[fldv 2 s p] w fun e w' => e = .returned (.bool (vldB 2 s p)) ∧ Below w.heap.size w w' := by
  have hI : vldB 2 s p = false := by rw [vldB_two]; simp; omega
  have HI := Lib.hid hI; clear hI
  go_enter Try.func59, Try.ntmps59
  go_wp2_with (go_at_call 85; refine (rdegree_any _ _ (by omega)).mono ?_; rintro e w' ⟨rfl, rfl⟩)
  go_ret
  exact ⟨ret_bool HI.out.symm, (Below.refl _ _).alloc (Nat.le_refl _) _⟩
theorem szw_eq' (s : Int) (h2 : bl s.toNat ≤ 13) : IntKind.i64.wrap (2 ^ (bl s.toNat - 1)) = ((2 ^ (bl s.toNat - 1) : Nat) : Int) := szw_eq s h2
set_option maxHeartbeats 400000 in
theorem rvalid_p3 (s z p : Int) (w : World) (hs : s ≤ 9223372036854775807) (h : 2 ≤ bl s.toNat) (h2 : bl s.toNat ≤ 13)
    (hz : wrap64 (2 ^ (bl s.toNat - 1)) = z) (h3 : (s == z) = false) :
    Calls Try.prog 59 #[fldv 2 s p] w fun e w' => e = .returned (.bool (vldB 2 s p)) ∧ Below w.heap.size w w' := by
  have hI : vldB 2 s p = false := by
    rw [vldB_two, ← szw_eq' s h2, IntWalk.i64_left, hz]
    have h4 : ¬ s = z := ne_of_beq_false h3
    simp [h4]
  have HI := Lib.hid hI; clear hI
  go_enter Try.func59, Try.ntmps59
  go_wp2_with (go_at_call 85; refine (rdegree_any _ _ (by omega)).mono ?_; rintro e w' ⟨rfl, rfl⟩)
  go_ret
  exact ⟨ret_bool HI.out.symm, (Below.refl _ _).alloc (Nat.le_refl _) _⟩
theorem szw2 (n : Nat) (h : n ≤ 13) : wrap64 (2 ^ n) = ((2 ^ n : Nat) : Int) := by
  have h := Nat.pow_le_pow_right (n := 2) (by omega) h
  rw [show ((2 : Int) ^ n) = ((2 ^ n : Nat) : Int) from by simp]
  generalize 2 ^ n = N at *
  exact IntWalk.wrap64_in _ (by omega)
set_option maxHeartbeats 400000 in
theorem rvalid_p4 (s z p : Int) (w : World) (hs : s ≤ 9223372036854775807) (h : 2 ≤ bl s.toNat) (h2 : bl s.toNat ≤ 13)
    (hz : wrap64 (2 ^ (bl s.toNat - 1)) = s) (hz2 : wrap64 (2 ^ (bl s.toNat)) = z) (h3 : z ≤ p) :
    Calls Try.prog 59 #[fldv 2 s p] w fun e w' => e = .returned (.bool (vldB 2 s p)) ∧ Below w.heap.size w w' := by
  have hI : vldB 2 s p = false := by
    rw [vldB_two]
    rw [szw2 _ h2] at hz2
    have h5 : ¬ (bl p.toNat : Int) = (bl s.toNat : Int) - 1 + 1 := by
      intro e
      have := (bl_le_iff p.toNat (bl s.toNat)).1 (by omega)
      omega
    unfold rirrB
    rw [decide_eq_false h5]; simp
  have HI := Lib.hid hI; clear hI
  go_enter Try.func59, Try.ntmps59
  go_wp2_with (go_at_call 85; refine (rdegree_any _ _ (by omega)).mono ?_; rintro e w' ⟨rfl, rfl⟩)
  go_ret
  exact ⟨ret_bool HI.out.symm, (Below.refl _ _).alloc (Nat.le_refl _) _⟩
set_option maxHeartbeats 400000 in
theorem rvalid_p5 (s z p : Int) (w : World) (hs : s ≤ 9223372036854775807) (hp1 : p ≤ 9223372036854775807) (h : 2 ≤ bl s.toNat) (h2 : bl s.toNat ≤ 13)
    (hz : wrap64 (2 ^ (bl s.toNat - 1)) = s) (hz2 : wrap64 (2 ^ (bl s.toNat)) = z) (h3 : p < z) :
    Calls Try.prog 59 #[fldv 2 s p] w fun e w' => e = .returned (.bool (vldB 2 s p)) ∧ Below w.heap.size w w' := by
  have hI : vldB 2 s p = rirrB p ((bl s.toNat : Int) - 1) := by
    rw [vldB_two]
    rw [IntWalk.i64_left .. |>.symm, szw_eq' s h2] at hz
    simp [h, h2, hz]
  have HI := Lib.hid hI; clear hI
  go_enter Try.func59, Try.ntmps59
  go_wp2_with (first | (go_at_call 85; refine (rdegree_any _ _ (by omega)).mono ?_; rintro e w' ⟨rfl, rfl⟩) | (go_at_call 86; refine (rirr_any _ _ _ (by omega) (by omega) (by omega)).mono ?_; rintro e w' ⟨rfl, rfl⟩))
  go_ret
  exact ⟨ret_bool HI.out.symm, (Below.refl _ _).alloc (Nat.le_refl _) _⟩
theorem rvalid_p (s p : Int) (w : World) (hs : s ≤ 9223372036854775807) (hp1 : p ≤ 9223372036854775807) :
    Calls Try.prog 59 #[fldv 2 s p] w fun e w' => e = .returned (.bool (vldB 2 s p)) ∧ Below w.heap.size w w' := by
  by_cases h : 2 ≤ bl s.toNat
  · by_cases h2 : bl s.toNat ≤ 13
    · by_cases h3 : s = wrap64 (2 ^ (bl s.toNat - 1))
      · by_cases h4 : p < wrap64 (2 ^ (bl s.toNat))
        · exact rvalid_p5 s _ p w hs hp1 h h2 h3.symm rfl h4
        · exact rvalid_p4 s _ p w hs h h2 h3.symm rfl (by omega)
      · exact rvalid_p3 s _ p w hs h h2 rfl (beq_false_of_ne h3)
    · exact rvalid_p2 s p w hs (by omega)
  · exact rvalid_p1 s p w hs (by omega)

theorem vldB_odd (c s p : Int) (hc : c ≠ 2) : vldB c s p = (decide (c = s) && decide (p = 0) && decide (3 ≤ s) && decide (s ≤ 4096) && primeB s.toNat) := by
  unfold vldB
  by_cases hp0 : p = 0
  · subst hp0; rw [if_pos rfl, Bool.eq_iff_iff]
    simp only [Bool.and_eq_true, decide_eq_true_iff]
    constructor
    · rintro ⟨⟨⟨h1, h2⟩, h3⟩, h4⟩; exact ⟨⟨⟨⟨h3, trivial⟩, by omega⟩, h2⟩, h4⟩
    · rintro ⟨⟨⟨⟨h3, -⟩, h1⟩, h2⟩, h4⟩; exact ⟨⟨⟨by omega, h2⟩, h3⟩, h4⟩
  · rw [if_neg hp0]; simp [hp0, hc]
set_option maxHeartbeats 400000 in
theorem rvalid_o1 (c s p : Int) (w : World) (hc : (c == 2) = false) (h : (c == s) = false) :
    Calls Try.prog 59 #[fldv c s p] w fun e w' => e = .returned (.bool (vldB c s p)) ∧ Below w.heap.size w w' := by
  have hI : vldB c s p = false := by rw [vldB_odd c s p (ne_of_beq_false hc)]; have := ne_of_beq_false h; simp [this]
  have HI := Lib.hid hI; clear hI
  go_enter Try.func59, Try.ntmps59
  go_wp2
  go_ret
  exact ⟨ret_bool HI.out.symm, (Below.refl _ _).alloc (Nat.le_refl _) _⟩
set_option maxHeartbeats 400000 in
theorem rvalid_o2 (s p : Int) (w : World) (hc : (s == 2) = false) (h : (p == 0) = false) :
    Calls Try.prog 59 #[fldv s s p] w fun e w' => e = .returned (.bool (vldB s s p)) ∧ Below w.heap.size w w' := by
  have hI : vldB s s p = false := by rw [vldB_odd s s p (ne_of_beq_false hc)]; have := ne_of_beq_false h; simp [this]
  have HI := Lib.hid hI; clear hI
  go_enter Try.func59, Try.ntmps59
  go_wp2
  go_ret
  exact ⟨ret_bool HI.out.symm, (Below.refl _ _).alloc (Nat.le_refl _) _⟩
set_option maxHeartbeats 400000 in
theorem rvalid_o3 (s : Int) (w : World) (hc : (s == 2) = false) (h : s < 3) :
    Calls Try.prog 59 #[fldv s s 0] w fun e w' => e = .returned (.bool (vldB s s 0)) ∧ Below w.heap.size w w' := by
  have hI : vldB s s 0 = false := by rw [vldB_odd s s 0 (ne_of_beq_false hc)]; simp; omega
  have HI := Lib.hid hI; clear hI
  go_enter Try.func59, Try.ntmps59
  go_wp2
  go_ret
  exact ⟨ret_bool HI.out.symm, (Below.refl _ _).alloc (Nat.le_refl _) _⟩
set_option maxHeartbeats 400000 in
theorem rvalid_o4 (s : Int) (w : World) (hc : (s == 2) = false) (h : 4096 < s) :
    Calls Try.prog 59 #[fldv s s 0] w fun e w' => e = .returned (.bool (vldB s s 0)) ∧ Below w.heap.size w w' := by
  have hI : vldB s s 0 = false := by rw [vldB_odd s s 0 (ne_of_beq_false hc)]; simp; omega
  have HI := Lib.hid hI; clear hI
  go_enter Try.func59, Try.ntmps59
  go_wp2
  go_ret
  exact ⟨ret_bool HI.out.symm, (Below.refl _ _).alloc (Nat.le_refl _) _⟩
set_option maxHeartbeats 400000 in
theorem rvalid_o5 (s : Int) (w : World) (hc : (s == 2) = false) (h : 3 ≤ s) (h2 : s ≤ 4096) :
    Calls Try.prog 59 #[fldv s s 0] w fun e w' => e = .returned (.bool (vldB s s 0)) ∧ Below w.heap.size w w' := by
  have hI : vldB s s 0 = primeB s.toNat := by rw [vldB_odd s s 0 (ne_of_beq_false hc)]; simp [h, h2]
  have HI := Lib.hid hI; clear hI
  go_enter Try.func59, Try.ntmps59
  go_wp2_with (first | (go_at_call 87; refine (rprime_any _ _ (by omega) (by omega)).mono ?_; rintro e w' ⟨rfl, rfl⟩))
  go_ret
  exact ⟨ret_bool HI.out.symm, (Below.refl _ _).alloc (Nat.le_refl _) _⟩
theorem rvalid_any (c s p : Int) (w : World) (hs : s ≤ 9223372036854775807) (hp1 : p ≤ 9223372036854775807) :
    Calls Try.prog 59 #[fldv c s p] w fun e w' => e = .returned (.bool (vldB c s p)) ∧ Below w.heap.size w w' := by
  by_cases hc : c = 2
  · subst hc; exact rvalid_p s p w hs hp1
  · by_cases h : c = s
    · subst h
      by_cases hp : p = 0
      · subst hp
        by_cases h1 : 3 ≤ c
        · by_cases h2 : c ≤ 4096
          · exact rvalid_o5 c w (beq_false_of_ne hc) h1 h2
          · exact rvalid_o4 c w (beq_false_of_ne hc) (by omega)
        · exact rvalid_o3 c w (beq_false_of_ne hc) (by omega)
      · exact rvalid_o2 c p w (beq_false_of_ne hc) (beq_false_of_ne hp)
    · exact rvalid_o1 c s p w (beq_false_of_ne hc) (beq_false_of_ne h)
end Go.Proofs.Ythpcneeidhmdkaa
namespace Go.Proofs.Ythpcneeidhmdkaa
open Go.RowKit
theorem bcell {W w1 : World} (hb : Below W.heap.size W w1) : (∀ b o, b < W.heap.size → w1.cell? ⟨b, o, none⟩ = W.cell? ⟨b, o, none⟩) ∧ (∀ b o, b < W.heap.size → w1.frozen? ⟨b, o, none⟩ = W.frozen? ⟨b, o, none⟩) :=
  ⟨fun _ _ h => hb.cell h, fun _ _ h => hb.frozen h⟩
def inB (s : Int) (xs : List Int) : Bool := xs.all fun a => decide (0 ≤ a) && decide (a < s)
set_option maxHeartbeats 400000 in
theorem has_no (c s p : Int) (xs : Value) (w : World) (h1 : p ≤ 9223372036854775807) (hv : vldB c s p = false) :
    Calls Try.prog 73 #[fldv c s p, xs] w fun e w' => e = .returned (.bool false) ∧ Below w.heap.size w w' := by
  have HV := Lib.hid hv; clear hv
  go_enter Try.func73, Try.ntmps73
  go_wp2_with (go_at_call 81; refine (valid_any _ _ _ _ (by omega)).mono ?_; rintro e w1 ⟨rfl, hb1⟩; rw [HV.out])
  go_ret
  exact ⟨rfl, ((Below.refl _ _).alloc (Nat.le_refl _) _).trans (hb1.mono (by simp))⟩
set_option maxHeartbeats 400000 in
theorem has_yes0 (c s p : Int) (w : World) (h1 : p ≤ 9223372036854775807) (hv : vldB c s p = true) :
    Calls Try.prog 73 #[fldv c s p, .slice none 0 0] w fun e w' => e = .returned (.bool true) ∧ Below w.heap.size w w' := by
  have HV := Lib.hid hv; clear hv
  go_enter Try.func73, Try.ntmps73
  go_wp2_with (go_at_call 81; refine (valid_any _ _ _ _ (by omega)).mono ?_; rintro e w1 ⟨rfl, hb1⟩; rw [HV.out])
  go_loop [6, 12] (fun _ i => i = .int .i64 0) (fun _ _ => 0)
  case atStart => rfl
  case round =>
    subst hrel
    go_wp2
    go_ret
    exact ⟨rfl, ((Below.refl _ _).alloc (Nat.le_refl _) _).trans (hb1.mono (by simp))⟩
set_option maxHeartbeats 400000 in
theorem has_yes (c s p : Int) (xs : List Int) (b : Nat) (w : World) (h1 : p ≤ 9223372036854775807) (hv : vldB c s p = true)
    (hn : xs.length ≤ 1000) (hbw : b < w.heap.size) (hcl : ∀ i, i < xs.length → w.cell? ⟨b, i, none⟩ = some (.int .i64 (xs.getD i 0))) :
    Calls Try.prog 73 #[fldv c s p, .slice (some ⟨b, 0, none⟩) xs.length xs.length] w fun e w' => e = .returned (.bool (inB s xs)) ∧ Below w.heap.size w w' := by
  have HV := Lib.hid hv; clear hv
  have HC := Lib.hid hcl; clear hcl
  generalize hL : xs.length = n at *
  have HL := Lib.hid hL; clear hL
  go_enter Try.func73, Try.ntmps73
  go_wp2_with (go_at_call 81; refine (valid_any _ _ _ _ (by omega)).mono ?_; rintro e w1 ⟨rfl, hb1⟩; rw [HV.out])
  obtain ⟨hbc, -⟩ := bcell hb1
  have hcs : w1.cell? ⟨w.heap.size, 1, none⟩ = some (.int .i64 s) := by
    rw [hbc _ _ (by simp)]; go_simp
  have hcx : ∀ i, i < n → w1.cell? ⟨b, i, none⟩ = some (.int .i64 (xs.getD i 0)) := by
    intro i hi
    rw [hbc _ _ (by simp; omega), ← HC.out i hi]
    exact World.cell?_of_block (Below.heap_alloc _ _ _ hbw)
  have HX := Lib.hid hcx; clear hcx HC hbc
  have hfin : Hid (Below w.heap.size w w1) := ((Below.refl _ _).alloc (Nat.le_refl _) _).trans (hb1.mono (by simp))
  clear hb1
  go_loop [6, 12] (fun _ i => ∃ k : Nat, k ≤ n ∧ i = .int .i64 k ∧ Hid (∀ j, j < k → 0 ≤ xs.getD j 0 ∧ xs.getD j 0 < s)) (fun _ i => n - (intOf i).toNat)
  case atStart => exact ⟨0, Nat.zero_le _, rfl, fun j hj => by omega⟩
  case round =>
    obtain ⟨k, hk, rfl, hid⟩ := hrel
    by_cases hlt : k < n
    · have hck := HX.out k hlt
      generalize hx : xs.getD k 0 = x at *
      have Hx := Lib.hid hx; clear hx
      by_cases h2 : x < 0
      · have hI : inB s xs = false := by
          unfold inB; rw [List.all_eq_false]
          have hkl : k < xs.length := by rw [HL.out]; exact hlt
          refine ⟨xs[k], List.getElem_mem hkl, ?_⟩
          have : xs[k] = x := by rw [← Hx.out]; simp [List.getElem?_eq_getElem hkl]
          rw [this]; simp; omega
        have HI := Lib.hid hI; clear hI
        go_wp2
        go_ret
        exact ⟨ret_bool HI.out.symm, hfin.out⟩
      · by_cases h3 : s ≤ x
        · have hI : inB s xs = false := by
            unfold inB; rw [List.all_eq_false]
            have hkl : k < xs.length := by rw [HL.out]; exact hlt
            refine ⟨xs[k], List.getElem_mem hkl, ?_⟩
            have : xs[k] = x := by rw [← Hx.out]; simp [List.getElem?_eq_getElem hkl]
            rw [this]; simp; omega
          have HI := Lib.hid hI; clear hI
          go_wp2
          go_ret
          exact ⟨ret_bool HI.out.symm, hfin.out⟩
        · go_wp2
          refine ⟨⟨k + 1, by omega, by go_num, ?_⟩, by simp [intOf]; omega⟩
          intro j hj
          by_cases hjk : j = k
          · subst hjk; rw [Hx.out]; omega
          · exact hid.out j (by omega)
    · have hI : inB s xs = true := by
        unfold inB; rw [List.all_eq_true]
        intro a ha
        obtain ⟨j, hj, rfl⟩ := List.getElem_of_mem ha
        have := hid.out j (by rw [HL.out] at hj; omega)
        rw [List.getD_eq_getElem?_getD, List.getElem?_eq_getElem hj] at this
        simpa using this
      have HI := Lib.hid hI; clear hI
      obtain rfl : k = n := by omega
      go_wp2
      go_ret
      exact ⟨ret_bool HI.out.symm, hfin.out⟩
end Go.Proofs.Ythpcneeidhmdkaa
namespace Go.Proofs.Ythpcneeidhmdkaa
open Go.RowKit
theorem prod_step (d p A B S R : Nat) (hp : bl p = d + 1) (hA : bl A ≤ d) (hB : bl B ≤ d) (hS : bl S ≤ d) (hid : S ^^^ cmod (cmul A B) p = R) (o : Bool) (ho : decide (B % 2 = 1) = o)
    (A' : Nat) (hA' : A' = cmod (2 * A) p) : bl A' ≤ d ∧ bl (B / 2) ≤ d ∧ bl (if o then S ^^^ A else S) ≤ d ∧ (if o then S ^^^ A else S) ^^^ cmod (cmul A' (B / 2)) p = R := by
  have hp0 : p ≠ 0 := by intro h; subst h; rw [bl_zero] at hp; omega
  refine ⟨?_, ?_, ?_, ?_⟩
  · have := cmod_lt (2 * A) p hp0; rw [hA']; omega
  · exact Nat.le_trans (bl_mono _ _ (Nat.div_le_self B 2)) hB
  · cases o
    · exact hS
    · exact bl_xor_le _ _ _ hS hA
  · rw [← hid, mul_round A B p hp0, hA']
    cases o
    · have : ¬ B % 2 = 1 := by simpa using ho
      simp [this]
    · have : B % 2 = 1 := by simpa using ho
      simp only [this, if_true]
      rw [cmod_small A p (by omega), Nat.xor_assoc]
theorem odd_yes {B : Nat} (hB : B < 2 ^ 62) (h : (bits BinOp.and IntKind.i64 (B : Int) 1 == 1) = true) : decide (B % 2 = 1) = true := by
  rw [i64_and_one B hB] at h
  rw [decide_eq_true_iff]; exact Int.ofNat.inj (eq_of_beq h)
theorem odd_no {B : Nat} (hB : B < 2 ^ 62) (h : (bits BinOp.and IntKind.i64 (B : Int) 1 == 1) = false) : decide (B % 2 = 1) = false := by
  rw [i64_and_one B hB] at h
  rw [decide_eq_false_iff_not]; intro e; rw [e] at h; cases h
theorem dbl_ge {d p A : Nat} {s : Nat} (hs : 2 ^ d = s) (hp : bl p = d + 1) (hA : bl A ≤ d) (h : (s : Int) ≤ (A : Int) * 2) (hd : d ≤ 12) :
    bits BinOp.xor IntKind.i64 ((A : Int) * 2) (p : Int) = ((cmod (2 * A) p : Nat) : Int) := by
  rw [cmod_double A p d hp hA, if_pos (by rw [hs]; omega)]
  have h1 : A < 2 ^ 12 := (bl_le_iff _ _).1 (by omega)
  have h2 : p < 2 ^ 13 := (bl_le_iff _ _).1 (by omega)
  rw [show ((A : Int) * 2) = ((2 * A : Nat) : Int) from by omega]
  exact i64_xor_nat _ _ (by omega) (by omega)
theorem dbl_lt {d p A : Nat} {s : Nat} (hs : 2 ^ d = s) (hp : bl p = d + 1) (hA : bl A ≤ d) (h : (A : Int) * 2 < (s : Int)) :
    (A : Int) * 2 = ((cmod (2 * A) p : Nat) : Int) := by
  rw [cmod_double A p d hp hA, if_neg (by rw [hs]; omega)]; omega

set_option maxHeartbeats 400000 in
theorem product_bin (d s p a b : Nat) (c : Int) (w : World) (hd : d ≤ 12) (hs : 2 ^ d = s) (hp : bl p = d + 1) (ha : bl a ≤ d) (hb : bl b ≤ d) (hp0 : ((p : Int) == 0) = false) :
    Calls Try.prog 74 #[fldv c s p, .int .i64 a, .int .i64 b] w fun e w' => e = .returned (.int .i64 (cmod (cmul a b) p)) ∧ Below w.heap.size w w' := by
  have hs4 : s ≤ 4096 := by rw [← hs]; exact Nat.pow_le_pow_right (n := 2) (by omega) hd
  have HS := Lib.hid hs; clear hs
  have HP := Lib.hid hp; clear hp
  have HD := Lib.hid hd; clear hd
  go_enter Try.func74, Try.ntmps74
  go_wp2_with fail
  go_loop [1, 2, 7] (fun x y z => ∃ A B S : Nat, x = .int .i64 A ∧ y = .int .i64 B ∧ z = .int .i64 S ∧ bl A ≤ d ∧ bl B ≤ d ∧ bl S ≤ d ∧ Hid (S ^^^ cmod (cmul A B) p = cmod (cmul a b) p)) (fun _ y _ => (intOf y).toNat)
  case atStart => exact ⟨a, b, 0, rfl, rfl, rfl, ha, hb, Nat.zero_le _, by show _ = _; simp⟩
  case round =>
    obtain ⟨A, B, S, rfl, rfl, rfl, hA, hB, hS, hid⟩ := hrel
    have hA4 : A < 2 ^ 12 := (bl_le_iff _ _).1 (by have := HD.out; omega)
    have hB4 : B < 2 ^ 12 := (bl_le_iff _ _).1 (by have := HD.out; omega)
    have hS4 : S < 2 ^ 12 := (bl_le_iff _ _).1 (by have := HD.out; omega)
    have hAI : A ≤ 4096 := by omega
    have hBI : B ≤ 4096 := by omega
    have xSA : bits BinOp.xor IntKind.i64 (S : Int) (A : Int) = ((S ^^^ A : Nat) : Int) := i64_xor_nat _ _ (by omega) (by omega)
    have XSA := Lib.hid xSA; clear xSA
    have H62 : Hid (B < 2 ^ 62) := by show B < 2 ^ 62; omega
    clear hA4 hB4 hS4
    go_wp2
    · rename_i h0 h1 h2
      have st := prod_step d p A B S _ HP.out hA hB hS hid.out true (odd_yes H62.out h1) _ rfl
      rw [XSA.out, dbl_ge HS.out HP.out hA h2 HD.out]
      exact ⟨⟨_, B / 2, _, rfl, by go_num, rfl, st.1, st.2.1, st.2.2.1, st.2.2.2⟩, by simp [intOf]; omega⟩
    · rename_i h0 h1 h2
      have st := prod_step d p A B S _ HP.out hA hB hS hid.out true (odd_yes H62.out h1) _ rfl
      rw [XSA.out, dbl_lt HS.out HP.out hA h2]
      exact ⟨⟨_, B / 2, _, rfl, by go_num, rfl, st.1, st.2.1, st.2.2.1, st.2.2.2⟩, by simp [intOf]; omega⟩
    · rename_i h0 h1 h2
      have st := prod_step d p A B S _ HP.out hA hB hS hid.out false (odd_no H62.out h1) _ rfl
      rw [dbl_ge HS.out HP.out hA h2 HD.out]
      exact ⟨⟨_, B / 2, _, rfl, by go_num, rfl, st.1, st.2.1, st.2.2.1, st.2.2.2⟩, by simp [intOf]; omega⟩
    · rename_i h0 h1 h2
      have st := prod_step d p A B S _ HP.out hA hB hS hid.out false (odd_no H62.out h1) _ rfl
      rw [dbl_lt HS.out HP.out hA h2]
      exact ⟨⟨_, B / 2, _, rfl, by go_num, rfl, st.1, st.2.1, st.2.2.1, st.2.2.2⟩, by simp [intOf]; omega⟩
    · rename_i h0 h1
      obtain rfl : B = 0 := by omega
      go_ret
      refine ⟨ret_int ?_, (Below.refl _ _).alloc (Nat.le_refl _) _⟩
      have := hid.out
      have hpp := HP.out
      rw [cmul_zero, cmod_small 0 p (by rw [bl_zero]; omega), Nat.xor_zero] at this
      rw [← this]
set_option maxHeartbeats 400000 in
theorem product_prime (s a b : Nat) (c : Int) (w : World) (hs : 2 < s) (hs2 : s ≤ 4096) (ha : a < s) (hb : b < s) :
    Calls Try.prog 74 #[fldv c s 0, .int .i64 a, .int .i64 b] w fun e w' => e = .returned (.int .i64 (a * b % s : Nat)) ∧ Below w.heap.size w w' := by
  have hab : a * b ≤ 4096 * 4096 := Nat.mul_le_mul (by omega) (by omega)
  have h0 : (0 : Int) ≤ (a : Int) * b := by have : (0 : Int) ≤ ((a * b : Nat) : Int) := by omega
                                            simpa using this
  have h1 : (a : Int) * b ≤ 16777216 := by have : ((a * b : Nat) : Int) ≤ 16777216 := by omega
                                           simpa using this
  go_enter Try.func74, Try.ntmps74
  go_wp2
  go_ret
  exact ⟨ret_int (by simp), (Below.refl _ _).alloc (Nat.le_refl _) _⟩
theorem el_bl {S : Nat} (a d : Nat) (hs : S = 2 ^ d) (ha : a < S) : bl a ≤ d := (bl_le_iff _ _).2 (by rw [← hs]; exact ha)
theorem product_any (C S P : Nat) (a b : Int) (w : World) (hv : VF C S P) (ha0 : 0 ≤ a) (ha : a < S) (hb0 : 0 ≤ b) (hb : b < S) :
    Calls Try.prog 74 #[fldv C S P, .int .i64 a, .int .i64 b] w fun e w' => e = .returned (.int .i64 (fmulN S P a.toNat b.toNat : Nat)) ∧ Below w.heap.size w w' := by
  obtain ⟨A, rfl⟩ := Int.eq_ofNat_of_zero_le ha0
  obtain ⟨B, rfl⟩ := Int.eq_ofNat_of_zero_le hb0
  rw [Int.toNat_natCast, Int.toNat_natCast]
  unfold fmulN
  rcases hv with ⟨hp, hc, h2, h4, -⟩ | ⟨d, h1, h2, h3, h4, -, -⟩
  · subst hp; rw [if_pos rfl]; exact product_prime S A B C w h2 h4 (by omega) (by omega)
  · have hp0 : P ≠ 0 := by intro h; subst h; rw [bl_zero] at h3; omega
    rw [if_neg hp0]
    exact product_bin d S P A B C w h2 h4.symm h3 (el_bl A d h4 (by omega)) (el_bl B d h4 (by omega)) (beq_false_of_ne (by omega))

/-! the reference's Times -/
theorem cmul_round (A X k : Nat) : cmul (A * 2 ^ k) X = (if X % 2 = 1 then A * 2 ^ k else 0) ^^^ cmul (A * 2 ^ (k + 1)) (X / 2) := by
  rw [cmul_eq, ← two_mul_cmul, show 2 * (A * 2 ^ k) = A * 2 ^ (k + 1) from by rw [Nat.pow_succ]; ac_rfl]
theorem times_step (A B Q k R : Nat) (hA : bl A ≤ 12) (hB : bl B ≤ 12) (hQ : bl Q ≤ 24) (hk : 0 < B / 2 ^ k) (hid : Q ^^^ cmul (A * 2 ^ k) (B / 2 ^ k) = R) (o : Bool) (ho : decide (B / 2 ^ k % 2 = 1) = o) :
    k < 12 ∧ bl (if o then Q ^^^ A * 2 ^ k else Q) ≤ 24 ∧ (if o then Q ^^^ A * 2 ^ k else Q) ^^^ cmul (A * 2 ^ (k + 1)) (B / 2 ^ (k + 1)) = R := by
  have hk12 : k < 12 := by
    rcases Nat.lt_or_ge k 12 with h | h
    · exact h
    · exfalso
      have h1 := (bl_le_iff B 12).1 hB
      have h2 : 2 ^ 12 ≤ 2 ^ k := Nat.pow_le_pow_right (by omega) h
      rw [Nat.div_eq_of_lt (by omega)] at hk; omega
  refine ⟨hk12, ?_, ?_⟩
  · cases o
    · exact hQ
    · refine bl_xor_le _ _ _ hQ ?_
      by_cases hA0 : A = 0
      · subst hA0; rw [Nat.zero_mul, bl_zero]; omega
      · rw [bl_shift A k hA0]; omega
  · rw [← hid, cmul_round A (B / 2 ^ k) k, Nat.div_div_eq_div_mul, ← Nat.pow_succ]
    cases o
    · have : ¬ B / 2 ^ k % 2 = 1 := by simpa using ho
      simp [this]
    · have : B / 2 ^ k % 2 = 1 := by simpa using ho
      simp only [this, if_true]
      rw [Nat.xor_assoc]
theorem bitn_yes {B k : Nat} (hB : B < 2 ^ 40) (h : (bits BinOp.and IntKind.i64 ((B : Int) / 2 ^ k) 1 == 1) = true) : decide (B / 2 ^ k % 2 = 1) = true := by
  rw [bit_one B k hB] at h
  rw [decide_eq_true_iff]; exact Int.ofNat.inj (eq_of_beq h)
theorem bitn_no {B k : Nat} (hB : B < 2 ^ 40) (h : (bits BinOp.and IntKind.i64 ((B : Int) / 2 ^ k) 1 == 1) = false) : decide (B / 2 ^ k % 2 = 1) = false := by
  rw [bit_one B k hB] at h
  rw [decide_eq_false_iff_not]; intro e; rw [e] at h; cases h
theorem div_pos_nat {b k : Nat} (h : (0 : Int) < (b : Int) / 2 ^ k) : 0 < b / 2 ^ k := by
  rw [show ((b : Int) / 2 ^ k) = ((b / 2 ^ k : Nat) : Int) from by simp] at h
  generalize b / 2 ^ k = N at *; omega
theorem div_zero_nat {b k : Nat} (h : (b : Int) / 2 ^ k ≤ 0) : b / 2 ^ k = 0 := by
  rw [show ((b : Int) / 2 ^ k) = ((b / 2 ^ k : Nat) : Int) from by simp] at h
  generalize b / 2 ^ k = N at *; omega
theorem times_val (a Q k : Nat) (ha : bl a ≤ 12) (hk : k ≤ 12) (hQ : bl Q ≤ 24) : bits BinOp.xor IntKind.i64 (Q : Int) (wrap64 ((a : Int) * 2 ^ k)) = ((Q ^^^ a * 2 ^ k : Nat) : Int) := by
  have h1 : bl (a * 2 ^ k) ≤ 24 := by
    by_cases hA0 : a = 0
    · subst hA0; rw [Nat.zero_mul, bl_zero]; omega
    · rw [bl_shift a k hA0]; omega
  have h2 := (bl_le_iff _ _).1 h1
  have h3 := (bl_le_iff _ _).1 hQ
  rw [show ((a : Int) * 2 ^ k) = ((a * 2 ^ k : Nat) : Int) from by simp]
  generalize a * 2 ^ k = N at *
  rw [IntWalk.wrap64_in _ (by omega), i64_xor_nat _ _ (by omega) (by omega)]
set_option maxHeartbeats 400000 in
theorem times_bin (s p a b : Nat) (w : World) (hp : bl p ≤ 13) (hp1 : 0 < p) (ha : bl a ≤ 12) (hb : bl b ≤ 12) :
    Calls Try.prog 84 #[fldv 2 s p, .int .i64 a, .int .i64 b] w fun e w' => e = .returned (.int .i64 (cmod (cmul a b) p)) ∧ Below w.heap.size w w' := by
  have ha4 : a ≤ 4096 := by have := (bl_le_iff _ _).1 ha; omega
  have hb4 : b ≤ 4096 := by have := (bl_le_iff _ _).1 hb; omega
  go_enter Try.func84, Try.ntmps84
  go_wp2_with fail
  go_loop [7, 8] (fun x y => ∃ Q k : Nat, x = .int .i64 Q ∧ y = .int .i64 k ∧ k ≤ 12 ∧ bl Q ≤ 24 ∧ Hid (Q ^^^ cmul (a * 2 ^ k) (b / 2 ^ k) = cmul a b)) (fun _ y => 20 - (intOf y).toNat)
  case atStart => exact ⟨0, 0, rfl, rfl, by omega, Nat.zero_le _, by show _ = _; simp⟩
  case round =>
    obtain ⟨Q, k, rfl, rfl, hk, hQ, hid⟩ := hrel
    have HB := Lib.hid hb; clear hb
    have HA := Lib.hid ha; clear ha
    go_wp2_with fail
    · rename_i h0 h1
      have hB40 : b < 2 ^ 40 := by omega
      have st := times_step a b Q k _ HA.out HB.out hQ (div_pos_nat h0) hid.out true (bitn_yes hB40 h1)
      rw [times_val a Q k HA.out hk hQ]
      exact ⟨⟨_, k + 1, rfl, by go_num, by omega, st.2.1, st.2.2⟩, by simp [intOf]; omega⟩
    · rename_i h0 h1
      have hB40 : b < 2 ^ 40 := by omega
      have st := times_step a b Q k _ HA.out HB.out hQ (div_pos_nat h0) hid.out false (bitn_no hB40 h1)
      exact ⟨⟨_, k + 1, rfl, by go_num, by omega, st.2.1, st.2.2⟩, by simp [intOf]; omega⟩
    · have h0 : (b : Int) / 2 ^ k ≤ 0 := by assumption
      have hz := div_zero_nat h0
      have hf := hid.out
      rw [hz, cmul_zero, Nat.xor_zero] at hf
      have HF := Lib.hid hf; clear hf
      clear hz
      refine (rrest_any _ _ _ (by omega) (by rw [Int.toNat_natCast]; omega) (by omega) (by rw [Int.toNat_natCast]; omega)).mono ?_
      rintro e w' ⟨rfl, rfl⟩
      go_wp2
      go_ret
      exact ⟨ret_int (by rw [HF.out]), (Below.refl _ _).alloc (Nat.le_refl _) _⟩
set_option maxHeartbeats 400000 in
theorem times_prime (s a b : Nat) (c : Int) (w : World) (hc : (c == 2) = false) (hs : 2 < s) (hs2 : s ≤ 4096) (ha : a < s) (hb : b < s) :
    Calls Try.prog 84 #[fldv c s 0, .int .i64 a, .int .i64 b] w fun e w' => e = .returned (.int .i64 (a * b % s : Nat)) ∧ Below w.heap.size w w' := by
  have hab : a * b ≤ 4096 * 4096 := Nat.mul_le_mul (by omega) (by omega)
  have h0 : (0 : Int) ≤ (a : Int) * b := by have : (0 : Int) ≤ ((a * b : Nat) : Int) := by omega
                                            simpa using this
  have h1 : (a : Int) * b ≤ 16777216 := by have : ((a * b : Nat) : Int) ≤ 16777216 := by omega
                                           simpa using this
  go_enter Try.func84, Try.ntmps84
  go_wp2
  go_ret
  exact ⟨ret_int (by simp), (Below.refl _ _).alloc (Nat.le_refl _) _⟩
theorem times_any (C S P : Nat) (a b : Int) (w : World) (hv : VF C S P) (ha0 : 0 ≤ a) (ha : a < S) (hb0 : 0 ≤ b) (hb : b < S) :
    Calls Try.prog 84 #[fldv C S P, .int .i64 a, .int .i64 b] w fun e w' => e = .returned (.int .i64 (fmulN S P a.toNat b.toNat : Nat)) ∧ Below w.heap.size w w' := by
  obtain ⟨A, rfl⟩ := Int.eq_ofNat_of_zero_le ha0
  obtain ⟨B, rfl⟩ := Int.eq_ofNat_of_zero_le hb0
  rw [Int.toNat_natCast, Int.toNat_natCast]
  unfold fmulN
  rcases hv with ⟨hp, hc, h2, h4, -⟩ | ⟨d, h1, h2, h3, h4, hc, -⟩
  · subst hp; rw [if_pos rfl]; exact times_prime S A B C w (beq_false_of_ne (by omega)) h2 h4 (by omega) (by omega)
  · have hp0 : P ≠ 0 := by intro h; subst h; rw [bl_zero] at h3; omega
    rw [if_neg hp0]; subst hc
    exact times_bin S P A B w (by omega) (by omega) (Nat.le_trans (el_bl A d h4 (by omega)) h2) (Nat.le_trans (el_bl B d h4 (by omega)) h2)
end Go.Proofs.Ythpcneeidhmdkaa
namespace Go.Proofs.Ythpcneeidhmdkaa
set_option linter.unusedVariables false
open Go.RowKit
/-- the box of a field stands at block w.heap.size, and nothing below has turned -/
def InW (w : World) (c s p : Int) (wr : World) : Prop :=
  Below w.heap.size w wr ∧ w.heap.size < wr.heap.size ∧ wr.cell? ⟨w.heap.size, 0, none⟩ = some (.int .i64 c) ∧ wr.cell? ⟨w.heap.size, 1, none⟩ = some (.int .i64 s) ∧ wr.cell? ⟨w.heap.size, 2, none⟩ = some (.int .i64 p)
theorem InW.start (w : World) (c s p : Int) (t : Nat) : InW w c s p (w.alloc (.cells #[.int .i64 c, .int .i64 s, .int .i64 p] t)) := by
  refine ⟨(Below.refl _ _).alloc (Nat.le_refl _) _, by simp, ?_, ?_, ?_⟩ <;> go_simp
theorem InW.step {w wr w1 : World} {c s p : Int} (h : InW w c s p wr) (hb : Below wr.heap.size wr w1) : InW w c s p w1 := by
  obtain ⟨h0, h1, h2, h3, h4⟩ := h
  exact ⟨h0.trans (hb.mono (by omega)), Nat.lt_of_lt_of_le h1 hb.size, (hb.cell h1).trans h2, (hb.cell h1).trans h3, (hb.cell h1).trans h4⟩
theorem InW.drew {w wr : World} {c s p : Int} (h : InW w c s p wr) : InW w c s p wr.drew := ⟨h.1.drew, h.2.1, h.2.2.1, h.2.2.2.1, h.2.2.2.2⟩
theorem InW.below {w wr : World} {c s p : Int} (h : InW w c s p wr) : Below w.heap.size w wr := h.1

set_option maxHeartbeats 400000 in
theorem rpower_nat (C S P a n : Nat) (w : World) (hv : VF C S P) (ha : a < S) (hn : n ≤ 1000000) :
    Calls Try.prog 95 #[fldv C S P, .int .i64 a, .int .i64 n] w fun e w' => e = .returned (.int .i64 (fpowN S P a n : Nat)) ∧ Below w.heap.size w w' := by
  have hS := hv.le
  have hS2 := hv.two_le
  have HV := Lib.hid hv; clear hv
  go_enter Try.func95, Try.ntmps95
  go_wp2_with fail
  go_loopw [1, 2, 7] (fun x y z wr => ∃ A N R : Nat, x = .int .i64 A ∧ y = .int .i64 N ∧ z = .int .i64 R ∧ A < S ∧ N ≤ 1000000 ∧ R < S ∧ Hid (fmulN S P R (fpowN S P A N) = fpowN S P a n) ∧ InW w C S P wr) (fun _ y _ _ => (intOf y).toNat)
  case atStart => exact ⟨a, n, 1, rfl, rfl, rfl, ha, hn, by omega, one_mulN HV.out _ (fpowN_lt HV.out _ _), InW.start w C S P _⟩
  case round =>
    obtain ⟨A, N, R, rfl, rfl, rfl, hA, hN, hR, hid, hin⟩ := hrel
    obtain ⟨hbl, hsz, hc0, hc1, hc2⟩ := id hin
    have HIN := Lib.hid hin; clear hin
    have HBL := Lib.hid hbl; clear hbl
    by_cases hz : 0 < N
    · by_cases ho : N % 2 = 1
      · have hod : ((N : Int) % 2 == 1) = true := by
          rw [beq_iff_eq]; omega
        have HO := Lib.hid ho; clear ho
        go_wp2_with fail
        refine (times_any C S P _ _ _ HV.out (by omega) (by omega) (by omega) (by omega)).mono ?_
        rintro e w1 ⟨rfl, hb1⟩
        have hin1 := HIN.out.step hb1
        obtain ⟨-, hsz1, hd0, hd1, hd2⟩ := id hin1
        have HIN1 := Lib.hid hin1; clear hin1 hb1
        go_wp2_with fail
        refine (times_any C S P _ _ _ HV.out (by omega) (by omega) (by omega) (by omega)).mono ?_
        rintro e w2 ⟨rfl, hb2⟩
        have hin2 := Lib.hid (HIN1.out.step hb2)
        clear hb2
        have HE := Lib.hid ((pow_odd HV.out R A N hR hA HO.out).trans hid.out)
        clear hid
        go_wp2_with fail
        exact ⟨⟨fmulN S P A A, N / 2, fmulN S P R A, rfl, by go_num, rfl, fmul_lt HV.out _ _, by omega, fmul_lt HV.out _ _, HE.out, hin2.out⟩, by simp [intOf]; omega⟩
      · have hod : ((N : Int) % 2 == 1) = false := by
          rw [beq_eq_false_iff_ne]; omega
        have HO : Hid (N % 2 = 0) := by show N % 2 = 0; omega
        clear ho
        go_wp2_with fail
        refine (times_any C S P _ _ _ HV.out (by omega) (by omega) (by omega) (by omega)).mono ?_
        rintro e w1 ⟨rfl, hb1⟩
        have hin1 := Lib.hid (HIN.out.step hb1)
        clear hb1
        have HE := Lib.hid ((pow_even HV.out R A N hR hA HO.out).trans hid.out)
        clear hid
        go_wp2_with fail
        exact ⟨⟨fmulN S P A A, N / 2, R, rfl, by go_num, rfl, fmul_lt HV.out _ _, by omega, hR, HE.out, hin1.out⟩, by simp [intOf]; omega⟩
    · obtain rfl : N = 0 := by omega
      have he := hid.out
      rw [show fpowN S P A 0 = 1 from rfl, mul_oneN HV.out R hR] at he
      have HE := Lib.hid he; clear he hid
      go_wp2_with fail
      go_ret
      exact ⟨ret_int (by rw [HE.out]), HBL.out⟩
theorem rpower_any (C S P : Nat) (a n : Int) (w : World) (hv : VF C S P) (ha0 : 0 ≤ a) (ha : a < S) (hn0 : 0 ≤ n) (hn : n ≤ 1000000) :
    Calls Try.prog 95 #[fldv C S P, .int .i64 a, .int .i64 n] w fun e w' => e = .returned (.int .i64 (fpowN S P a.toNat n.toNat : Nat)) ∧ Below w.heap.size w w' := by
  obtain ⟨A, rfl⟩ := Int.eq_ofNat_of_zero_le ha0
  obtain ⟨N, rfl⟩ := Int.eq_ofNat_of_zero_le hn0
  exact rpower_nat C S P A N w hv (by omega) (by omega)

/-- Plus and Minus -/
theorem VF.odd {c s p : Nat} (h : VF c s p) (hp : p = 0) : c ≠ 2 ∧ 2 < s := by
  rcases h with ⟨_, h1, h2, -⟩ | ⟨d, _, _, h3, _⟩
  · omega
  · subst hp; rw [bl_zero] at h3; omega
theorem VF.even {c s p : Nat} (h : VF c s p) (hp : p ≠ 0) : c = 2 ∧ 2 ≤ p := by
  rcases h with ⟨h1, _⟩ | ⟨d, h1, _, h3, _, h4, _⟩
  · omega
  · refine ⟨h4, ?_⟩
    rcases Nat.lt_or_ge p 2 with h | h
    · have : p = 1 := by omega
      subst this; have e : bl 1 = 1 := by decide
      omega
    · exact h
set_option maxHeartbeats 400000 in
theorem rplus_any (C S P : Nat) (a b : Int) (w : World) (hv : VF C S P) (ha0 : 0 ≤ a) (ha : a < S) (hb0 : 0 ≤ b) (hb : b < S) :
    Calls Try.prog 83 #[fldv C S P, .int .i64 a, .int .i64 b] w fun e w' => e = .returned (.int .i64 (faddN S P a.toNat b.toNat : Nat)) ∧ Below w.heap.size w w' := by
  have hS := hv.le
  have hS2 := hv.two_le
  by_cases hp : P = 0
  · have hc : (((C : Nat) : Int) == 2) = false := by rw [beq_eq_false_iff_ne]; have := (hv.odd hp).1; omega
    have he : Hid ((faddN S P a.toNat b.toNat : Nat) = (a + b) % (S : Int)) := by
      show _ = _
      unfold faddN; rw [if_pos hp, Int.natCast_emod, show ((a.toNat + b.toNat : Nat) : Int) = a + b from by omega]
    clear hv hp
    go_enter Try.func83, Try.ntmps83
    go_wp2
    go_ret
    exact ⟨ret_int (by rw [he.out]), (Below.refl _ _).alloc (Nat.le_refl _) _⟩
  · have hc : (((C : Nat) : Int) == 2) = true := by rw [beq_iff_eq]; have := (hv.even hp).1; omega
    have he : Hid ((faddN S P a.toNat b.toNat : Nat) = bits BinOp.xor IntKind.i64 a b) := by
      show _ = _
      unfold faddN; rw [if_neg hp, i64_xor a b ha0 (by omega) hb0 (by omega)]
    clear hv hp
    go_enter Try.func83, Try.ntmps83
    go_wp2
    go_ret
    exact ⟨ret_int (by rw [he.out]), (Below.refl _ _).alloc (Nat.le_refl _) _⟩
set_option maxHeartbeats 400000 in
theorem rminus_any (C S P : Nat) (a b : Int) (w : World) (hv : VF C S P) (ha0 : 0 ≤ a) (ha : a < S) (hb0 : 0 ≤ b) (hb : b < S) :
    Calls Try.prog 90 #[fldv C S P, .int .i64 a, .int .i64 b] w fun e w' => e = .returned (.int .i64 (fsubN S P a.toNat b.toNat : Nat)) ∧ Below w.heap.size w w' := by
  have hS := hv.le
  have hS2 := hv.two_le
  by_cases hp : P = 0
  · have hc : (((C : Nat) : Int) == 2) = false := by rw [beq_eq_false_iff_ne]; have := (hv.odd hp).1; omega
    have he : Hid ((fsubN S P a.toNat b.toNat : Nat) = (a + (S : Int) - b) % (S : Int)) := by
      show _ = _
      unfold fsubN; rw [if_pos hp, Int.natCast_emod, show ((a.toNat + S - b.toNat : Nat) : Int) = a + S - b from by omega]
    clear hv hp
    go_enter Try.func90, Try.ntmps90
    go_wp2
    go_ret
    exact ⟨ret_int (by rw [he.out]), (Below.refl _ _).alloc (Nat.le_refl _) _⟩
  · have hc : (((C : Nat) : Int) == 2) = true := by rw [beq_iff_eq]; have := (hv.even hp).1; omega
    have he : Hid ((fsubN S P a.toNat b.toNat : Nat) = bits BinOp.xor IntKind.i64 a b) := by
      show _ = _
      unfold fsubN; rw [if_neg hp, i64_xor a b ha0 (by omega) hb0 (by omega)]
    clear hv hp
    go_enter Try.func90, Try.ntmps90
    go_wp2
    go_ret
    exact ⟨ret_int (by rw [he.out]), (Below.refl _ _).alloc (Nat.le_refl _) _⟩
end Go.Proofs.Ythpcneeidhmdkaa
namespace Go.Proofs.Ythpcneeidhmdkaa
open Go.RowKit
set_option linter.unusedVariables false
theorem tmod_neg (n m : Int) (hm : 1 ≤ m) (hn : n < 0) : (n.tmod m < 0 ∧ n.tmod m + m = n % m ∧ 1 - m ≤ n.tmod m) ∨ (n.tmod m = 0 ∧ n % m = 0) := by
  have h1 := Int.emod_nonneg n (show m ≠ 0 by omega)
  have h2 := Int.emod_lt_of_pos n (show 0 < m by omega)
  rw [Int.tmod_eq_emod]
  by_cases h : m ∣ n
  · right
    rw [if_pos (.inr h), Int.emod_eq_zero_of_dvd h]; omega
  · left
    have h3 : n % m ≠ 0 := fun e => h (Int.dvd_of_emod_eq_zero e)
    rw [if_neg (by omega)]; omega
set_option maxHeartbeats 400000 in
theorem order_nat (C S P a k : Nat) (w : World) (hv : VF C S P) (ha : a < S) (hk : OrdN S P a k) (hk4 : k ≤ 4096) :
    Calls Try.prog 98 #[fldv C S P, .int .i64 a] w fun e w' => e = .returned (.int .i64 k) ∧ Below w.heap.size w w' := by
  have hS := hv.le
  have hS2 := hv.two_le
  have HV := Lib.hid hv; clear hv
  have hk1 := hk.1
  have HK := Lib.hid hk; clear hk
  go_enter Try.func98, Try.ntmps98
  go_wp2_with fail
  go_loopw [5, 6] (fun y x wr => ∃ j X : Nat, y = .int .i64 j ∧ x = .int .i64 X ∧ 1 ≤ j ∧ j ≤ k ∧ X < S ∧ Hid (X = fpowN S P a j) ∧ InW w C S P wr) (fun y _ _ => k - (intOf y).toNat)
  case atStart => exact ⟨1, a, rfl, rfl, by omega, by omega, ha, (one_mulN HV.out a ha).symm, InW.start w C S P _⟩
  case round =>
    obtain ⟨j, X, rfl, rfl, hj1, hj, hX, hid, hin⟩ := hrel
    obtain ⟨hbl, hsz, hc0, hc1, hc2⟩ := id hin
    have HIN := Lib.hid hin; clear hin
    have HBL := Lib.hid hbl; clear hbl
    by_cases h1 : X = 1
    · subst h1
      have hjk : j = k := by
        by_cases h : j < k
        · exact absurd hid.out.symm (HK.out.2.2 j hj1 h)
        · omega
      have HJ := Lib.hid hjk; clear hjk
      go_wp2_with fail
      go_ret
      exact ⟨ret_int (by rw [HJ.out]), HBL.out⟩
    · have hjk : j < k := by
        rcases Nat.lt_or_ge j k with h | h
        · exact h
        · exfalso; apply h1
          have : j = k := by omega
          subst this
          rw [hid.out]; exact HK.out.2.1
      have hne : (((X : Nat) : Int) != 1) = true := by rw [bne_iff_ne]; omega
      have HE : Hid (fmulN S P X a = fpowN S P a (j + 1)) := by show _ = fmulN S P (fpowN S P a j) a; rw [← hid.out]
      clear h1 hid
      go_wp2_with (go_at_call 74; refine (product_any C S P _ _ _ HV.out (by omega) (by omega) (by omega) (by omega)).mono ?_; rintro e w1 ⟨rfl, hb1⟩)
      exact ⟨⟨j + 1, fmulN S P X a, by go_num, rfl, by omega, by omega, fmul_lt HV.out _ _, HE.out, HIN.out.step hb1⟩, by simp [intOf]; omega⟩
theorem order_any (C S P : Nat) (a : Int) (w : World) (hv : VF C S P) (ha0 : 0 < a) (ha : a < S) :
    Calls Try.prog 98 #[fldv C S P, .int .i64 a] w fun e w' => e = .returned (.int .i64 (ordF S P a.toNat : Nat)) ∧ Below w.heap.size w w' := by
  obtain ⟨A, rfl⟩ := Int.eq_ofNat_of_zero_le (Int.le_of_lt ha0)
  have hk := ordF_spec hv (a := A) (by omega) (by omega)
  have := hv.le
  rw [Int.toNat_natCast]
  exact order_nat C S P A _ w hv (by omega) hk.1 (by have := hk.2; omega)
theorem hold_of {w : World} {c s p : Int} {wr : World} (h : InW w c s p wr) : (wr.cell? ⟨w.heap.size, 0, none⟩ = some (.int .i64 c) ∧ wr.cell? ⟨w.heap.size, 1, none⟩ = some (.int .i64 s) ∧ wr.cell? ⟨w.heap.size, 2, none⟩ = some (.int .i64 p)) ∧ InW w c s p wr := ⟨h.2.2, h⟩
/-! the generator -/
set_option maxHeartbeats 1000000 in
theorem generator_any (C S P : Nat) (w : World) (hv : VF C S P) :
    Calls Try.prog 93 #[fldv C S P] w fun e w' => e = .returned (.int .i64 (genF S P : Nat)) ∧ Below w.heap.size w w' := by
  have hS := hv.le
  have hS2 := hv.two_le
  have hg := genF_spec hv
  have hg1 := hg.1
  have hg2 := hg.2.1
  have HV := Lib.hid hv; clear hv
  have HG := Lib.hid hg; clear hg
  go_enter Try.func93, Try.ntmps93
  go_wp2_with fail
  go_loopw [3] (fun x wr => ∃ X : Nat, x = .int .i64 X ∧ 1 ≤ X ∧ X ≤ genF S P ∧ InW w C S P wr) (fun x _ => genF S P - (intOf x).toNat)
  case atStart => exact ⟨1, rfl, by omega, by omega, InW.start w C S P _⟩
  case round =>
    obtain ⟨X, rfl, hX1, hX, hin⟩ := hrel
    obtain ⟨hbl, hsz, hc0, hc1, hc2⟩ := id hin
    have HIN := Lib.hid hin; clear hin
    have HBL := Lib.hid hbl; clear hbl
    have hXS : X < S := by omega
    have HG2 := Lib.hid hg2; clear hg2
    by_cases hlt : X < genF S P
    · have hne : (((ordF S P X : Nat) : Int) != (S : Int) - 1) = true := by
        rw [bne_iff_ne]; intro e
        have h1 := ordF_spec HV.out (a := X) (by have := HG2.out; omega) (by omega)
        have e2 : ordF S P X = S - 1 := by omega
        rw [e2] at h1
        exact HG.out.2.2.2 X hX1 hlt h1.1
      have hwr : IntKind.i64.wrap ((S : Int) - 1) = (S : Int) - 1 := IntWalk.i64_in _ (by omega)
      go_wp2_with fail
      go_region_held3 (fun w' => (w'.cell? ⟨w.heap.size, 0, none⟩ = some (.int .i64 C) ∧ w'.cell? ⟨w.heap.size, 1, none⟩ = some (.int .i64 S) ∧ w'.cell? ⟨w.heap.size, 2, none⟩ = some (.int .i64 P)) ∧ InW w C S P w') (first | exact hold_of (InW.drew HIN.out) | exact hold_of (by assumption)) (first | (go_at_call 98; refine (order_any C S P _ _ HV.out (by omega) (by have := HG2.out; omega)).mono ?_; rintro e w1 ⟨rfl, hb1⟩; have hin1 := InW.step (And.right (by assumption)) hb1))
      all_goals clear hwr
      all_goals go_wp2
      all_goals exact ⟨⟨X + 1, by go_num, by omega, by omega, And.right (by assumption)⟩, by simp [intOf]; omega⟩
    · have hX2 : X = genF S P := by omega
      have hne : (((ordF S P X : Nat) : Int) != (S : Int) - 1) = false := by
        rw [hX2, ordF_of HG.out.2.2.1, bne_eq_false_iff_eq]; omega
      have HX := Lib.hid hX2; clear hX2
      have hwr : IntKind.i64.wrap ((S : Int) - 1) = (S : Int) - 1 := IntWalk.i64_in _ (by omega)
      go_wp2_with fail
      go_region_held3 (fun w' => (w'.cell? ⟨w.heap.size, 0, none⟩ = some (.int .i64 C) ∧ w'.cell? ⟨w.heap.size, 1, none⟩ = some (.int .i64 S) ∧ w'.cell? ⟨w.heap.size, 2, none⟩ = some (.int .i64 P)) ∧ InW w C S P w') (first | exact hold_of (InW.drew HIN.out) | exact hold_of (by assumption)) (first | (go_at_call 98; refine (order_any C S P _ _ HV.out (by omega) (by have := HG2.out; omega)).mono ?_; rintro e w1 ⟨rfl, hb1⟩; have hin1 := InW.step (And.right (by assumption)) hb1))
      all_goals clear hwr
      all_goals go_wp2
      all_goals go_ret
      all_goals exact ⟨ret_int (by rw [HX.out]), InW.below (And.right (by assumption))⟩
/-! inverses -/
end Go.Proofs.Ythpcneeidhmdkaa
namespace Go.Proofs.Ythpcneeidhmdkaa
open Go.RowKit
set_option linter.unusedVariables false
theorem has2_any (c s p a b : Int) (k : Nat) (w : World) (hp : p ≤ 9223372036854775807) (hk : k < w.heap.size) (h0 : w.cell? ⟨k, 0, none⟩ = some (.int .i64 a)) (h1 : w.cell? ⟨k, 1, none⟩ = some (.int .i64 b)) :
    Calls Try.prog 73 #[fldv c s p, .slice (some ⟨k, 0, none⟩) 2 2] w fun e w' => e = .returned (.bool (vldB c s p && inB s [a, b])) ∧ Below w.heap.size w w' := by
  cases hv : vldB c s p
  · exact has_no c s p _ w hp hv
  · refine has_yes c s p [a, b] k w hp hv (by simp) hk ?_
    intro i hi
    match i, hi with
    | 0, _ => exact h0
    | 1, _ => exact h1
    | n + 2, hi => simp at hi; omega
theorem has1_any (c s p a : Int) (k : Nat) (w : World) (hp : p ≤ 9223372036854775807) (hk : k < w.heap.size) (h0 : w.cell? ⟨k, 0, none⟩ = some (.int .i64 a)) :
    Calls Try.prog 73 #[fldv c s p, .slice (some ⟨k, 0, none⟩) 1 1] w fun e w' => e = .returned (.bool (vldB c s p && inB s [a])) ∧ Below w.heap.size w w' := by
  cases hv : vldB c s p
  · exact has_no c s p _ w hp hv
  · refine has_yes c s p [a] k w hp hv (by simp) hk ?_
    intro i hi
    match i, hi with
    | 0, _ => exact h0
    | n + 1, hi => simp at hi
theorem has0_any (c s p : Int) (w : World) (hp : p ≤ 9223372036854775807) :
    Calls Try.prog 73 #[fldv c s p, .slice none 0 0] w fun e w' => e = .returned (.bool (vldB c s p)) ∧ Below w.heap.size w w' := by
  cases hv : vldB c s p
  · exact has_no c s p _ w hp hv
  · exact has_yes0 c s p w hp hv
/-- two results as a value -/
abbrev tup (x : Int × Int) : Value := .tuple #[.int .i64 x.1, .int .i64 x.2]
theorem vld_nat {c s p : Int} (h : vldB c s p = true) : ∃ C S P : Nat, c = C ∧ s = S ∧ p = P ∧ VF C S P := by
  unfold vldB at h
  by_cases hp : p = 0
  · rw [if_pos hp] at h
    simp only [Bool.and_eq_true, decide_eq_true_iff] at h
    obtain ⟨⟨⟨h1, h2⟩, h3⟩, h4⟩ := h
    refine ⟨c.toNat, s.toNat, 0, by omega, by omega, by omega, .inl ⟨rfl, by omega, by omega, by omega, h4⟩⟩
  · rw [if_neg hp] at h
    simp only [Bool.and_eq_true, decide_eq_true_iff] at h
    obtain ⟨⟨⟨⟨h1, h2⟩, h3⟩, h4⟩, h5⟩ := h
    have hb := two_le_bl p h1
    have hs : s.toNat = 2 ^ (bl p.toNat - 1) := by rw [h4]; exact Int.toNat_natCast _
    have hs2 : s = (s.toNat : Int) := (Int.toNat_of_nonneg (by rw [h4]; exact Int.natCast_nonneg _)).symm
    exact ⟨2, s.toNat, p.toNat, h3, hs2, by omega, .inr ⟨bl p.toNat - 1, by omega, by omega, by omega, hs, rfl, h5⟩⟩
end Go.Proofs.Ythpcneeidhmdkaa
