import Derived.Test.YtefnflmabdpnbaaLogB
namespace Go.Proofs.Ytefnflmabdpnbaa
open Go.RowKit
set_option linter.unusedVariables false
/-! Binary and Prime: their result is a struct -/
abbrev ftup (c s p e : Int) : Value := .tuple #[.agg #[.int .i64 c, .int .i64 s, .int .i64 p], .int .i64 e]
def binOk (d p : Int) : Bool := decide (1 ≤ d) && decide (d ≤ 12) && rirrB p d
theorem vld_bin (d p : Int) (h1 : 1 ≤ d) (h2 : d ≤ 12) : vldB 2 ((2 ^ d.toNat : Nat) : Int) p = rirrB p d := by
  obtain ⟨D, rfl⟩ := Int.eq_ofNat_of_zero_le (by omega : 0 ≤ d)
  rw [vldB_two, Int.toNat_natCast, Int.toNat_natCast, bl_two_pow]
  have e : (((D + 1 : Nat) : Int) - 1) = (D : Int) := by omega
  rw [e, show D + 1 - 1 = D from by omega]
  simp
  intro _; omega
set_option maxHeartbeats 400000 in
theorem Binary_range (d p : Int) (w : World) (h : d < 1 ∨ 12 < d) :
    Calls Try.prog 10 #[.int .i64 d, .int .i64 p] w fun e w' => e = .returned (ftup 0 0 0 3) ∧ Below w.heap.size w w' := by
  rcases h with h | h
  · go_enter Try.func10, Try.ntmps10
    go_wp2
    exact bodyPost_ret (v := ftup 0 0 0 3) (by simp [results, Try.results10, go_sem]) rfl ⟨rfl, (Below.refl _ _).alloc (Nat.le_refl _) _⟩
  · have h' : ¬ d < 1 := by omega
    go_enter Try.func10, Try.ntmps10
    go_wp2
    exact bodyPost_ret (v := ftup 0 0 0 3) (by simp [results, Try.results10, go_sem]) rfl ⟨rfl, (Below.refl _ _).alloc (Nat.le_refl _) _⟩
set_option maxHeartbeats 400000 in
theorem Binary_in (d p s : Int) (w : World) (h1 : 1 ≤ d) (h2 : d ≤ 12) (hp : p ≤ 9223372036854775807) (hs : wrap64 (2 ^ d.toNat) = s) (ok : Bool) (hok : vldB 2 s p = ok) :
    Calls Try.prog 10 #[.int .i64 d, .int .i64 p] w fun e w' => e = .returned (if ok then ftup 2 s p 0 else ftup 0 0 0 38) ∧ Below w.heap.size w w' := by
  have HOK := Lib.hid hok; clear hok
  go_enter Try.func10, Try.ntmps10
  go_wp2_with fail
  refine (valid_any _ _ _ _ hp).mono ?_
  rintro e w1 ⟨rfl, hb1⟩
  rw [HOK.out]
  obtain ⟨hbc, hbf⟩ := bcell hb1
  have c0 : w1.cell? ⟨w.heap.size, 0, none⟩ = some (.int .i64 0) := by rw [hbc _ _ (by simp; omega)]; go_simp
  have c1 : w1.cell? ⟨w.heap.size, 1, none⟩ = some (.int .i64 0) := by rw [hbc _ _ (by simp; omega)]; go_simp
  have c2 : w1.cell? ⟨w.heap.size, 2, none⟩ = some (.int .i64 0) := by rw [hbc _ _ (by simp; omega)]; go_simp
  have f0 : w1.frozen? ⟨w.heap.size, 0, none⟩ = false := by rw [hbf _ _ (by simp; omega)]; go_simp
  have f1 : w1.frozen? ⟨w.heap.size, 1, none⟩ = false := by rw [hbf _ _ (by simp; omega)]; go_simp
  have f2 : w1.frozen? ⟨w.heap.size, 2, none⟩ = false := by rw [hbf _ _ (by simp; omega)]; go_simp
  have hsz : w.heap.size + 1 < w1.heap.size := by have := hb1.size; simp at this; omega
  have d0 : w1.cell? ⟨w.heap.size + 1, 0, none⟩ = some (.int .i64 2) := by rw [hbc _ _ (by simp)]; go_simp
  have d1 : w1.cell? ⟨w.heap.size + 1, 1, none⟩ = some (.int .i64 s) := by rw [hbc _ _ (by simp)]; go_simp
  have d2 : w1.cell? ⟨w.heap.size + 1, 2, none⟩ = some (.int .i64 p) := by rw [hbc _ _ (by simp)]; go_simp
  have HB : Hid (Below w.heap.size w w1) := (((Below.refl _ _).alloc (Nat.le_refl _) _).alloc (by simp) _).trans (hb1.mono (by simp; omega))
  clear hbc hbf hb1
  cases ok
  · go_wp2
    exact bodyPost_ret (v := ftup 0 0 0 38) (by simp [results, Try.results10, go_sem, c0, c1, c2]) rfl ⟨rfl, ((HB.out.setCell (by simp) _).setCell (by simp) _).setCell (by simp) _⟩
  · go_wp2
    exact bodyPost_ret (v := ftup 2 s p 0) (by simp [results, Try.results10, go_sem, c0, c1, c2]) rfl ⟨rfl, ((HB.out.setCell (by simp) _).setCell (by simp) _).setCell (by simp) _⟩
/-- what Binary answers -/
def binV (d p : Int) : Value := if binOk d p then ftup 2 ((2 ^ d.toNat : Nat) : Int) p 0 else if 1 ≤ d ∧ d ≤ 12 then ftup 0 0 0 38 else ftup 0 0 0 3
theorem pow_wrap (d : Int) (h1 : 1 ≤ d) (h2 : d ≤ 12) : wrap64 (2 ^ d.toNat) = ((2 ^ d.toNat : Nat) : Int) := szw2 d.toNat (by omega)
theorem Binary_any (d p : Int) (w : World) (hp : p ≤ 9223372036854775807) :
    Calls Try.prog 10 #[.int .i64 d, .int .i64 p] w fun e w' => e = .returned (binV d p) ∧ Below w.heap.size w w' := by
  by_cases h : 1 ≤ d ∧ d ≤ 12
  · refine (Binary_in d p _ w h.1 h.2 hp (pow_wrap d h.1 h.2) _ rfl).mono ?_
    rintro e w' ⟨rfl, hb⟩
    refine ⟨?_, hb⟩
    unfold binV binOk
    rw [vld_bin d p h.1 h.2]
    cases rirrB p d <;> simp [h.1, h.2]
  · have : binV d p = ftup 0 0 0 3 := by
      unfold binV binOk
      rw [if_neg (by simp; omega), if_neg h]
    rw [this]
    exact Binary_range d p w (by omega)
/-! the reference's Binary -/
set_option maxHeartbeats 400000 in
theorem rBinary_range (d p : Int) (w : World) (h : d < 1 ∨ 12 < d) :
    Calls Try.prog 11 #[.int .i64 d, .int .i64 p] w fun e w' => e = .returned (ftup 0 0 0 3) ∧ Below w.heap.size w w' := by
  rcases h with h | h
  · go_enter Try.func11, Try.ntmps11
    go_wp2
    exact bodyPost_ret (v := ftup 0 0 0 3) (by simp [results, Try.results11, go_sem]) rfl ⟨rfl, (Below.refl _ _).alloc (Nat.le_refl _) _⟩
  · have h' : ¬ d < 1 := by omega
    go_enter Try.func11, Try.ntmps11
    go_wp2
    exact bodyPost_ret (v := ftup 0 0 0 3) (by simp [results, Try.results11, go_sem]) rfl ⟨rfl, (Below.refl _ _).alloc (Nat.le_refl _) _⟩
set_option maxHeartbeats 400000 in
theorem rBinary_big (d p z : Int) (w : World) (h1 : 1 ≤ d) (h2 : d ≤ 12) (hz : wrap64 (2 ^ (d + 1).toNat) = z) (hp : z ≤ p) :
    Calls Try.prog 11 #[.int .i64 d, .int .i64 p] w fun e w' => e = .returned (ftup 0 0 0 38) ∧ Below w.heap.size w w' := by
  go_enter Try.func11, Try.ntmps11
  go_wp2
  exact bodyPost_ret (v := ftup 0 0 0 38) (by simp [results, Try.results11, go_sem]) rfl ⟨rfl, (Below.refl _ _).alloc (Nat.le_refl _) _⟩
set_option maxHeartbeats 400000 in
theorem rBinary_in (d p s z : Int) (w : World) (h1 : 1 ≤ d) (h2 : d ≤ 12) (hs : wrap64 (2 ^ d.toNat) = s) (hz : wrap64 (2 ^ (d + 1).toNat) = z) (hp : p < z) (hp2 : p ≤ 9223372036854775807) (ok : Bool) (hok : rirrB p d = ok) :
    Calls Try.prog 11 #[.int .i64 d, .int .i64 p] w fun e w' => e = .returned (if ok then ftup 2 s p 0 else ftup 0 0 0 38) ∧ Below w.heap.size w w' := by
  have HOK := Lib.hid hok; clear hok
  go_enter Try.func11, Try.ntmps11
  go_wp2_with fail
  refine (rirr_any _ _ _ hp2 (by omega) h2).mono ?_
  rintro e w1 ⟨rfl, rfl⟩
  rw [HOK.out]
  cases ok
  · go_wp2
    exact bodyPost_ret (v := ftup 0 0 0 38) (by simp [results, Try.results11, go_sem]) rfl ⟨rfl, (Below.refl _ _).alloc (Nat.le_refl _) _⟩
  · go_wp2
    exact bodyPost_ret (v := ftup 2 s p 0) (by simp [results, Try.results11, go_sem]) rfl ⟨rfl, (Below.refl _ _).alloc (Nat.le_refl _) _⟩
theorem rBinary_any (d p : Int) (w : World) (hp : p ≤ 9223372036854775807) :
    Calls Try.prog 11 #[.int .i64 d, .int .i64 p] w fun e w' => e = .returned (binV d p) ∧ Below w.heap.size w w' := by
  by_cases h : 1 ≤ d ∧ d ≤ 12
  · have hz := szw2 (d + 1).toNat (by omega)
    by_cases hpz : p < wrap64 (2 ^ (d + 1).toNat)
    · refine (rBinary_in d p _ _ w h.1 h.2 (pow_wrap d h.1 h.2) rfl hpz hp _ rfl).mono ?_
      rintro e w' ⟨rfl, hb⟩
      refine ⟨?_, hb⟩
      unfold binV binOk
      cases rirrB p d <;> simp [h.1, h.2]
    · have hn : rirrB p d = false := by
        unfold rirrB
        rw [hz] at hpz
        have : ¬ (bl p.toNat : Int) = d + 1 := by
          intro e
          have := (bl_le_iff p.toNat (d + 1).toNat).1 (by omega)
          omega
        rw [decide_eq_false this]; simp
      have : binV d p = ftup 0 0 0 38 := by
        unfold binV binOk
        rw [hn, if_neg (by simp), if_pos h]
      rw [this]
      exact rBinary_big d p _ w h.1 h.2 rfl (by omega)
  · have : binV d p = ftup 0 0 0 3 := by
      unfold binV binOk
      rw [if_neg (by simp; omega), if_neg h]
    rw [this]
    exact rBinary_range d p w (by omega)

/-! Prime -/
def primeV (p : Int) : Value :=
  if p < 2 ∨ 4096 < p then ftup 0 0 0 3 else if primeB p.toNat then (if p = 2 then ftup 2 2 2 0 else ftup p p 0 0) else ftup 0 0 0 1
theorem binV12 : binV 1 2 = ftup 2 2 2 0 := by
  have : binOk 1 2 = true := by decide
  unfold binV; rw [this]; rfl
set_option maxHeartbeats 400000 in
theorem Prime_range (p : Int) (w : World) (h : p < 2 ∨ 4096 < p) :
    Calls Try.prog 12 #[.int .i64 p] w fun e w' => e = .returned (ftup 0 0 0 3) ∧ Below w.heap.size w w' := by
  rcases h with h | h
  · go_enter Try.func12, Try.ntmps12
    go_wp2
    exact bodyPost_ret (v := ftup 0 0 0 3) (by simp [results, Try.results12, go_sem]) rfl ⟨rfl, (Below.refl _ _).alloc (Nat.le_refl _) _⟩
  · have h' : ¬ p < 2 := by omega
    go_enter Try.func12, Try.ntmps12
    go_wp2
    exact bodyPost_ret (v := ftup 0 0 0 3) (by simp [results, Try.results12, go_sem]) rfl ⟨rfl, (Below.refl _ _).alloc (Nat.le_refl _) _⟩
set_option maxHeartbeats 400000 in
theorem Prime_no (p : Int) (w : World) (h1 : 2 ≤ p) (h2 : p ≤ 4096) (h : primeB p.toNat = false) :
    Calls Try.prog 12 #[.int .i64 p] w fun e w' => e = .returned (ftup 0 0 0 1) ∧ Below w.heap.size w w' := by
  have HH := Lib.hid h; clear h
  go_enter Try.func12, Try.ntmps12
  go_wp2_with (go_at_call 42; refine (prime_any _ _ h1 h2).mono ?_; rintro e w' ⟨rfl, rfl⟩; rw [HH.out])
  exact bodyPost_ret (v := ftup 0 0 0 1) (by simp [results, Try.results12, go_sem]) rfl ⟨rfl, (Below.refl _ _).alloc (Nat.le_refl _) _⟩
set_option maxHeartbeats 400000 in
theorem Prime_odd (p : Int) (w : World) (h1 : 2 < p) (h2 : p ≤ 4096) (h : primeB p.toNat = true) :
    Calls Try.prog 12 #[.int .i64 p] w fun e w' => e = .returned (ftup p p 0 0) ∧ Below w.heap.size w w' := by
  have HH := Lib.hid h; clear h
  have hb : (p == 2) = false := by rw [beq_eq_false_iff_ne]; omega
  go_enter Try.func12, Try.ntmps12
  go_wp2_with (go_at_call 42; refine (prime_any _ _ (by omega) h2).mono ?_; rintro e w' ⟨rfl, rfl⟩; rw [HH.out])
  exact bodyPost_ret (v := ftup p p 0 0) (by simp [results, Try.results12, go_sem]) rfl ⟨rfl, (Below.refl _ _).alloc (Nat.le_refl _) _⟩
set_option maxHeartbeats 400000 in
theorem Prime_two (w : World) :
    Calls Try.prog 12 #[.int .i64 2] w fun e w' => e = .returned (ftup 2 2 2 0) ∧ Below w.heap.size w w' := by
  have HH : Hid (primeB (2 : Int).toNat = true) := by show _ = _; decide
  go_enter Try.func12, Try.ntmps12
  go_wp2_with fail
  refine (prime_any _ _ (by omega) (by omega)).mono ?_
  rintro e w' ⟨rfl, rfl⟩
  rw [HH.out]
  go_wp2_with fail
  refine (Binary_any 1 2 _ (by omega)).mono ?_
  rintro e w1 ⟨rfl, hb1⟩
  rw [binV12]
  obtain ⟨hbc, hbf⟩ := bcell hb1
  have c0 : w1.cell? ⟨w.heap.size, 0, none⟩ = some (.int .i64 0) := by rw [hbc _ _ (by simp)]; go_simp
  have c1 : w1.cell? ⟨w.heap.size, 1, none⟩ = some (.int .i64 0) := by rw [hbc _ _ (by simp)]; go_simp
  have c2 : w1.cell? ⟨w.heap.size, 2, none⟩ = some (.int .i64 0) := by rw [hbc _ _ (by simp)]; go_simp
  have f0 : w1.frozen? ⟨w.heap.size, 0, none⟩ = false := by rw [hbf _ _ (by simp)]; go_simp
  have f1 : w1.frozen? ⟨w.heap.size, 1, none⟩ = false := by rw [hbf _ _ (by simp)]; go_simp
  have f2 : w1.frozen? ⟨w.heap.size, 2, none⟩ = false := by rw [hbf _ _ (by simp)]; go_simp
  have hsz : w.heap.size < w1.heap.size := by have := hb1.size; simp at this; omega
  have HB : Hid (Below w.heap.size w w1) := ((Below.refl _ _).alloc (Nat.le_refl _) _).trans (hb1.mono (by simp))
  clear hbc hbf hb1
  go_wp2
  exact bodyPost_ret (v := ftup 2 2 2 0) (by simp [results, Try.results12, go_sem, c0, c1, c2]) rfl ⟨rfl, ((HB.out.setCell (by simp) _).setCell (by simp) _).setCell (by simp) _⟩
theorem Prime_any (p : Int) (w : World) :
    Calls Try.prog 12 #[.int .i64 p] w fun e w' => e = .returned (primeV p) ∧ Below w.heap.size w w' := by
  by_cases h : p < 2 ∨ 4096 < p
  · unfold primeV; rw [if_pos h]; exact Prime_range p w h
  · unfold primeV; rw [if_neg h]
    cases hb : primeB p.toNat
    · exact Prime_no p w (by omega) (by omega) hb
    · by_cases h2 : p = 2
      · subst h2; exact Prime_two w
      · rw [if_neg h2]; exact Prime_odd p w (by omega) (by omega) hb
set_option maxHeartbeats 400000 in
theorem rPrime_range (p : Int) (w : World) (h : p < 2 ∨ 4096 < p) :
    Calls Try.prog 13 #[.int .i64 p] w fun e w' => e = .returned (ftup 0 0 0 3) ∧ Below w.heap.size w w' := by
  rcases h with h | h
  · go_enter Try.func13, Try.ntmps13
    go_wp2
    exact bodyPost_ret (v := ftup 0 0 0 3) (by simp [results, Try.results13, go_sem]) rfl ⟨rfl, (Below.refl _ _).alloc (Nat.le_refl _) _⟩
  · have h' : ¬ p < 2 := by omega
    go_enter Try.func13, Try.ntmps13
    go_wp2
    exact bodyPost_ret (v := ftup 0 0 0 3) (by simp [results, Try.results13, go_sem]) rfl ⟨rfl, (Below.refl _ _).alloc (Nat.le_refl _) _⟩
set_option maxHeartbeats 400000 in
theorem rPrime_no (p : Int) (w : World) (h1 : 2 ≤ p) (h2 : p ≤ 4096) (h : primeB p.toNat = false) :
    Calls Try.prog 13 #[.int .i64 p] w fun e w' => e = .returned (ftup 0 0 0 1) ∧ Below w.heap.size w w' := by
  have HH := Lib.hid h; clear h
  go_enter Try.func13, Try.ntmps13
  go_wp2_with (go_at_call 43; refine (rprime_any _ _ h1 h2).mono ?_; rintro e w' ⟨rfl, rfl⟩; rw [HH.out])
  exact bodyPost_ret (v := ftup 0 0 0 1) (by simp [results, Try.results13, go_sem]) rfl ⟨rfl, (Below.refl _ _).alloc (Nat.le_refl _) _⟩
set_option maxHeartbeats 400000 in
theorem rPrime_odd (p : Int) (w : World) (h1 : 2 < p) (h2 : p ≤ 4096) (h : primeB p.toNat = true) :
    Calls Try.prog 13 #[.int .i64 p] w fun e w' => e = .returned (ftup p p 0 0) ∧ Below w.heap.size w w' := by
  have HH := Lib.hid h; clear h
  have hb : (p == 2) = false := by rw [beq_eq_false_iff_ne]; omega
  go_enter Try.func13, Try.ntmps13
  go_wp2_with (go_at_call 43; refine (rprime_any _ _ (by omega) h2).mono ?_; rintro e w' ⟨rfl, rfl⟩; rw [HH.out])
  exact bodyPost_ret (v := ftup p p 0 0) (by simp [results, Try.results13, go_sem]) rfl ⟨rfl, (Below.refl _ _).alloc (Nat.le_refl _) _⟩
set_option maxHeartbeats 400000 in
theorem rPrime_two (w : World) :
    Calls Try.prog 13 #[.int .i64 2] w fun e w' => e = .returned (ftup 2 2 2 0) ∧ Below w.heap.size w w' := by
  have HH : Hid (primeB (2 : Int).toNat = true) := by show _ = _; decide
  go_enter Try.func13, Try.ntmps13
  go_wp2_with (go_at_call 43; refine (rprime_any _ _ (by omega) (by omega)).mono ?_; rintro e w' ⟨rfl, rfl⟩; rw [HH.out])
  exact bodyPost_ret (v := ftup 2 2 2 0) (by simp [results, Try.results13, go_sem]) rfl ⟨rfl, (Below.refl _ _).alloc (Nat.le_refl _) _⟩
theorem rPrime_any (p : Int) (w : World) :
    Calls Try.prog 13 #[.int .i64 p] w fun e w' => e = .returned (primeV p) ∧ Below w.heap.size w w' := by
  by_cases h : p < 2 ∨ 4096 < p
  · unfold primeV; rw [if_pos h]; exact rPrime_range p w h
  · unfold primeV; rw [if_neg h]
    cases hb : primeB p.toNat
    · exact rPrime_no p w (by omega) (by omega) hb
    · by_cases h2 : p = 2
      · subst h2; exact rPrime_two w
      · rw [if_neg h2]; exact rPrime_odd p w (by omega) (by omega) hb
end Go.Proofs.Ytefnflmabdpnbaa
