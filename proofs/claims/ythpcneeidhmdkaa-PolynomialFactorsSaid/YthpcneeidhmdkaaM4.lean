import Derived.Test.YthpcneeidhmdkaaM3
namespace Go.Proofs.Ythpcneeidhmdkaa
open Go.RowKit
set_option linter.unusedVariables false
theorem InW.alloc {w wr : World} {c s p : Int} (h : InW w c s p wr) (o : Obj) : InW w c s p (wr.alloc o) := by
  have := Below.heap_alloc wr o w.heap.size h.2.1
  refine ⟨h.1.alloc h.1.size _, by have := h.2.1; simp; omega, ?_, ?_, ?_⟩
  · exact (World.cell?_of_block this).trans h.2.2.1
  · exact (World.cell?_of_block this).trans h.2.2.2.1
  · exact (World.cell?_of_block this).trans h.2.2.2.2
def isB (s a : Int) : Bool := decide (0 ≤ a) && decide (a < s)
def ok1 (c s p a : Int) : Bool := vldB c s p && isB s a
def ok2 (c s p a b : Int) : Bool := vldB c s p && isB s a && isB s b
theorem ok1_eq (c s p a : Int) : (vldB c s p && inB s [a]) = ok1 c s p a := by simp [inB, ok1, isB]
theorem ok2_eq (c s p a b : Int) : (vldB c s p && inB s [a, b]) = ok2 c s p a b := by simp [inB, ok2, isB, Bool.and_assoc]
theorem ok1_nat {c s p a : Int} (h : ok1 c s p a = true) : ∃ C S P A : Nat, c = C ∧ s = S ∧ p = P ∧ a = A ∧ A < S ∧ VF C S P := by
  unfold ok1 isB at h
  simp only [Bool.and_eq_true, decide_eq_true_iff] at h
  obtain ⟨C, S, P, rfl, rfl, rfl, hv⟩ := vld_nat h.1
  exact ⟨C, S, P, a.toNat, rfl, rfl, rfl, by omega, by omega, hv⟩
theorem ok2_nat {c s p a b : Int} (h : ok2 c s p a b = true) : ∃ C S P A B : Nat, c = C ∧ s = S ∧ p = P ∧ a = A ∧ b = B ∧ A < S ∧ B < S ∧ VF C S P := by
  unfold ok2 isB at h
  simp only [Bool.and_eq_true, decide_eq_true_iff] at h
  obtain ⟨C, S, P, rfl, rfl, rfl, hv⟩ := vld_nat h.1.1
  exact ⟨C, S, P, a.toNat, b.toNat, rfl, rfl, rfl, by omega, by omega, by omega, by omega, hv⟩
theorem vld_of {C S P : Nat} (h : VF C S P) : vldB C S P = true := by
  have h2 := h.two_le
  unfold vldB
  rcases h with ⟨h1, h2, h3, h4, h5⟩ | ⟨d, h1, h2, h3, h4, h5, h6⟩
  · subst h1; subst h2; rw [if_pos (by rfl)]; simp [h5]; omega
  · have hp0 : ¬ ((P : Nat) : Int) = 0 := by intro h; have : P = 0 := by omega
                                             subst this; rw [bl_zero] at h3; omega
    have hp2 : 2 ≤ P := by
      rcases Nat.lt_or_ge P 2 with h | h
      · have : P = 1 := by omega
        subst this; have e : bl 1 = 1 := by decide
        omega
      · exact h
    rw [if_neg hp0]
    subst h4; subst h5
    simp only [Int.toNat_natCast, h3, h6, Bool.and_eq_true, decide_eq_true_iff]
    refine ⟨⟨⟨⟨by omega, by omega⟩, rfl⟩, by simp⟩, trivial⟩
theorem isB_of {S A : Nat} (h : A < S) : isB S A = true := by unfold isB; simp; omega
theorem ok1_of {C S P A : Nat} (h : VF C S P) (ha : A < S) : ok1 C S P A = true := by unfold ok1; rw [vld_of h, isB_of ha]; rfl
theorem ok2_of {C S P A B : Nat} (h : VF C S P) (ha : A < S) (hb : B < S) : ok2 C S P A B = true := by unfold ok2; rw [vld_of h, isB_of ha, isB_of hb]; rfl
theorem ret_tup {a b v e : Int} (h1 : a = v) (h2 : b = e) : Ending.returned (.tuple #[.int .i64 a, .int .i64 b]) = .returned (tup (v, e)) := by rw [h1, h2]
/-! what the functions answer -/
def addR (c s p a b : Int) : Int × Int := if ok2 c s p a b then ((faddN s.toNat p.toNat a.toNat b.toNat : Nat), 0) else (0, 1)
def subR (c s p a b : Int) : Int × Int := if ok2 c s p a b then ((fsubN s.toNat p.toNat a.toNat b.toNat : Nat), 0) else (0, 1)
def mulR (c s p a b : Int) : Int × Int := if ok2 c s p a b then ((fmulN s.toNat p.toNat a.toNat b.toNat : Nat), 0) else (0, 1)
def invR (c s p a : Int) : Int × Int := if ok1 c s p a then (if a = 0 then (0, 12) else ((finvN s.toNat p.toNat a.toNat : Nat), 0)) else (0, 1)
def divR (c s p a b : Int) : Int × Int := if ok2 c s p a b then (if b = 0 then (0, 12) else ((fmulN s.toNat p.toNat a.toNat (finvN s.toNat p.toNat b.toNat) : Nat), 0)) else (0, 1)
def powR (c s p a n : Int) : Int × Int := if ok1 c s p a then (if a = 0 then (if n < 0 then (0, 12) else if n = 0 then (1, 0) else (0, 0)) else ((fpowN s.toNat p.toNat a.toNat (n % (s - 1)).toNat : Nat), 0)) else (0, 1)
noncomputable def ordR (c s p a : Int) : Int × Int := if ok1 c s p a then (if a = 0 then (0, 12) else ((ordF s.toNat p.toNat a.toNat : Nat), 0)) else (0, 1)
noncomputable def genR (c s p : Int) : Int × Int := if vldB c s p then ((genF s.toNat p.toNat : Nat), 0) else (0, 1)
noncomputable def expR (c s p n : Int) : Int × Int := if vldB c s p then ((fpowN s.toNat p.toNat (genF s.toNat p.toNat) (n % (s - 1)).toNat : Nat), 0) else (0, 1)
set_option maxHeartbeats 400000 in
theorem Add_no (c s p a b : Int) (w : World) (hp : p ≤ 9223372036854775807) (h : ok2 c s p a b = false) :
    Calls Try.prog 38 #[fldv c s p, .int .i64 a, .int .i64 b] w fun e w' => e = .returned (tup (0, 1)) ∧ Below w.heap.size w w' := by
  have HH : Hid ((vldB c s p && inB s [a, b]) = false) := (ok2_eq c s p a b).trans h
  clear h
  go_enter Try.func38, Try.ntmps38
  go_wp2_with fail
  refine (has2_any c s p a b _ _ hp (by simp) (by go_simp) (by go_simp)).mono ?_
  rintro e w1 ⟨rfl, hb1⟩
  rw [HH.out]
  have hin1 := InW.step (InW.alloc (InW.start w c s p 23) (.cells #[.int .i64 a, .int .i64 b] 3)) hb1
  obtain ⟨-, hsz1, hc10, hc11, hc12⟩ := id hin1
  have HIN1 := Lib.hid hin1; clear hin1 hb1
  go_wp2_with fail
  go_ret2
  exact ⟨rfl, HIN1.out.below⟩
set_option maxHeartbeats 400000 in
theorem Mul_no (c s p a b : Int) (w : World) (hp : p ≤ 9223372036854775807) (h : ok2 c s p a b = false) :
    Calls Try.prog 39 #[fldv c s p, .int .i64 a, .int .i64 b] w fun e w' => e = .returned (tup (0, 1)) ∧ Below w.heap.size w w' := by
  have HH : Hid ((vldB c s p && inB s [a, b]) = false) := (ok2_eq c s p a b).trans h
  clear h
  go_enter Try.func39, Try.ntmps39
  go_wp2_with fail
  refine (has2_any c s p a b _ _ hp (by simp) (by go_simp) (by go_simp)).mono ?_
  rintro e w1 ⟨rfl, hb1⟩
  rw [HH.out]
  have hin1 := InW.step (InW.alloc (InW.start w c s p 23) (.cells #[.int .i64 a, .int .i64 b] 3)) hb1
  obtain ⟨-, hsz1, hc10, hc11, hc12⟩ := id hin1
  have HIN1 := Lib.hid hin1; clear hin1 hb1
  go_wp2_with fail
  go_ret2
  exact ⟨rfl, HIN1.out.below⟩
set_option maxHeartbeats 400000 in
theorem Generator_no (c s p : Int) (w : World) (hp : p ≤ 9223372036854775807) (h : vldB c s p = false) :
    Calls Try.prog 82 #[fldv c s p] w fun e w' => e = .returned (tup (0, 1)) ∧ Below w.heap.size w w' := by
  have HH := Lib.hid h
  clear h
  go_enter Try.func82, Try.ntmps82
  go_wp2_with fail
  refine (has0_any c s p _ hp).mono ?_
  rintro e w1 ⟨rfl, hb1⟩
  rw [HH.out]
  have hin1 := InW.step (InW.start w c s p 23) hb1
  obtain ⟨-, hsz1, hc10, hc11, hc12⟩ := id hin1
  have HIN1 := Lib.hid hin1; clear hin1 hb1
  go_wp2_with fail
  go_ret2
  exact ⟨rfl, HIN1.out.below⟩
theorem VF.pbd {C S P : Nat} (h : VF C S P) : (P : Int) ≤ 9223372036854775807 := by
  rcases h with ⟨h1, _⟩ | ⟨d, _, h1, h2, _⟩
  · omega
  · have := (bl_le_iff P 13).1 (by omega); omega
set_option maxHeartbeats 1000000 in
theorem Add_y0 (C S P A B : Nat) (w : World) (hv : VF C S P) (ha : A < S) (hb : B < S) (h0 : P = 0) :
    Calls Try.prog 38 #[fldv C S P, .int .i64 A, .int .i64 B] w fun e w' => e = .returned (tup ((faddN S P A B : Nat), 0)) ∧ Below w.heap.size w w' := by
  have hS := hv.le
  have hS2 := hv.two_le
  have hP : (P : Int) ≤ 9223372036854775807 := hv.pbd
  have HH : Hid ((vldB C S P && inB S [(A : Int), (B : Int)]) = true) := (ok2_eq _ _ _ _ _).trans (ok2_of hv ha hb)
  have hp0 : (((P : Nat) : Int) != 0) = false := by rw [h0]; rfl
  have HE : Hid (((A : Int) + B) % S = ((faddN S P A B : Nat) : Int)) := by
    show _ = _
    unfold faddN; rw [if_pos h0, Int.natCast_emod]
    exact congrArg (fun x => x % (S : Int)) (by omega)
  clear h0 hv
  go_enter Try.func38, Try.ntmps38
  go_wp2_with fail
  refine (has2_any C S P A B _ _ hP (by simp) (by go_simp) (by go_simp)).mono ?_
  rintro e w1 ⟨rfl, hb1⟩
  rw [HH.out]
  have hin1 := InW.step (InW.alloc (InW.start w C S P 23) (.cells #[.int .i64 A, .int .i64 B] 3)) hb1
  obtain ⟨-, hsz1, hc10, hc11, hc12⟩ := id hin1
  have HIN1 := Lib.hid hin1; clear hin1 hb1
  go_wp2_with fail
  go_ret2
  exact ⟨ret_tup HE.out rfl, HIN1.out.below⟩
set_option maxHeartbeats 1000000 in
theorem Add_y1 (C S P A B : Nat) (w : World) (hv : VF C S P) (ha : A < S) (hb : B < S) (h0 : P ≠ 0) :
    Calls Try.prog 38 #[fldv C S P, .int .i64 A, .int .i64 B] w fun e w' => e = .returned (tup ((faddN S P A B : Nat), 0)) ∧ Below w.heap.size w w' := by
  have hS := hv.le
  have hS2 := hv.two_le
  have hP : (P : Int) ≤ 9223372036854775807 := hv.pbd
  have HH : Hid ((vldB C S P && inB S [(A : Int), (B : Int)]) = true) := (ok2_eq _ _ _ _ _).trans (ok2_of hv ha hb)
  have hp0 : (((P : Nat) : Int) != 0) = true := by rw [bne_iff_ne]; omega
  have HE : Hid (bits BinOp.xor IntKind.i64 (A : Int) (B : Int) = ((faddN S P A B : Nat) : Int)) := by
    show _ = _
    unfold faddN; rw [if_neg h0]; exact i64_xor_nat A B (by omega) (by omega)
  clear h0 hv
  go_enter Try.func38, Try.ntmps38
  go_wp2_with fail
  refine (has2_any C S P A B _ _ hP (by simp) (by go_simp) (by go_simp)).mono ?_
  rintro e w1 ⟨rfl, hb1⟩
  rw [HH.out]
  have hin1 := InW.step (InW.alloc (InW.start w C S P 23) (.cells #[.int .i64 A, .int .i64 B] 3)) hb1
  obtain ⟨-, hsz1, hc10, hc11, hc12⟩ := id hin1
  have HIN1 := Lib.hid hin1; clear hin1 hb1
  go_wp2_with fail
  go_ret2
  exact ⟨ret_tup HE.out rfl, HIN1.out.below⟩
set_option maxHeartbeats 1000000 in
theorem Mul_yes (C S P A B : Nat) (w : World) (hv : VF C S P) (ha : A < S) (hb : B < S) :
    Calls Try.prog 39 #[fldv C S P, .int .i64 A, .int .i64 B] w fun e w' => e = .returned (tup ((fmulN S P A B : Nat), 0)) ∧ Below w.heap.size w w' := by
  have hS := hv.le
  have hS2 := hv.two_le
  have hP : (P : Int) ≤ 9223372036854775807 := hv.pbd
  have HH : Hid ((vldB C S P && inB S [(A : Int), (B : Int)]) = true) := (ok2_eq _ _ _ _ _).trans (ok2_of hv ha hb)
  have HV := Lib.hid hv; clear hv
  go_enter Try.func39, Try.ntmps39
  go_wp2_with fail
  refine (has2_any C S P A B _ _ hP (by simp) (by go_simp) (by go_simp)).mono ?_
  rintro e w1 ⟨rfl, hb1⟩
  rw [HH.out]
  have hin1 := InW.step (InW.alloc (InW.start w C S P 23) (.cells #[.int .i64 A, .int .i64 B] 3)) hb1
  obtain ⟨-, hsz1, hc10, hc11, hc12⟩ := id hin1
  have HIN1 := Lib.hid hin1; clear hin1 hb1
  go_wp2_with fail
  refine (product_any C S P _ _ _ HV.out (by omega) (by omega) (by omega) (by omega)).mono ?_
  rintro e w2 ⟨rfl, hb2⟩
  have hin2 := InW.step HIN1.out hb2
  obtain ⟨-, hsz2, hc20, hc21, hc22⟩ := id hin2
  have HIN2 := Lib.hid hin2; clear hin2 hb2
  go_wp2_with fail
  go_ret2
  exact ⟨rfl, HIN2.out.below⟩
set_option maxHeartbeats 1000000 in
theorem Generator_yes (C S P : Nat) (w : World) (hv : VF C S P) :
    Calls Try.prog 82 #[fldv C S P] w fun e w' => e = .returned (tup ((genF S P : Nat), 0)) ∧ Below w.heap.size w w' := by
  have hS := hv.le
  have hS2 := hv.two_le
  have hP : (P : Int) ≤ 9223372036854775807 := hv.pbd
  have HH : Hid (vldB C S P = true) := vld_of hv
  have HV := Lib.hid hv; clear hv
  go_enter Try.func82, Try.ntmps82
  go_wp2_with fail
  refine (has0_any C S P _ hP).mono ?_
  rintro e w1 ⟨rfl, hb1⟩
  rw [HH.out]
  have hin1 := InW.step (InW.start w C S P 23) hb1
  obtain ⟨-, hsz1, hc10, hc11, hc12⟩ := id hin1
  have HIN1 := Lib.hid hin1; clear hin1 hb1
  go_wp2_with fail
  refine (generator_any C S P _ HV.out).mono ?_
  rintro e w2 ⟨rfl, hb2⟩
  have hin2 := InW.step HIN1.out hb2
  obtain ⟨-, hsz2, hc20, hc21, hc22⟩ := id hin2
  have HIN2 := Lib.hid hin2; clear hin2 hb2
  go_wp2_with fail
  go_ret2
  exact ⟨rfl, HIN2.out.below⟩
theorem Add_any (c s p a b : Int) (w : World) (hs : s ≤ 9223372036854775807) (hp : p ≤ 9223372036854775807) :
    Calls Try.prog 38 #[fldv c s p, .int .i64 a, .int .i64 b] w fun e w' => e = .returned (tup (addR c s p a b)) ∧ Below w.heap.size w w' := by
  cases h : ok2 c s p a b
  · unfold addR; rw [h]; exact Add_no c s p a b w hp h
  · unfold addR; rw [h]
    obtain ⟨C, S, P, A, B, rfl, rfl, rfl, rfl, rfl, ha, hb, hv⟩ := ok2_nat h
    simp only [Int.toNat_natCast, if_true]
    by_cases h0 : P = 0
    · exact Add_y0 C S P A B w hv ha hb h0
    · exact Add_y1 C S P A B w hv ha hb h0
theorem Mul_any (c s p a b : Int) (w : World) (hs : s ≤ 9223372036854775807) (hp : p ≤ 9223372036854775807) :
    Calls Try.prog 39 #[fldv c s p, .int .i64 a, .int .i64 b] w fun e w' => e = .returned (tup (mulR c s p a b)) ∧ Below w.heap.size w w' := by
  cases h : ok2 c s p a b
  · unfold mulR; rw [h]; exact Mul_no c s p a b w hp h
  · unfold mulR; rw [h]
    obtain ⟨C, S, P, A, B, rfl, rfl, rfl, rfl, rfl, ha, hb, hv⟩ := ok2_nat h
    simp only [Int.toNat_natCast, if_true]
    exact Mul_yes C S P A B w hv ha hb
theorem Generator_any (c s p : Int) (w : World) (hs : s ≤ 9223372036854775807) (hp : p ≤ 9223372036854775807) :
    Calls Try.prog 82 #[fldv c s p] w fun e w' => e = .returned (tup (genR c s p)) ∧ Below w.heap.size w w' := by
  cases h : vldB c s p
  · unfold genR; rw [h]; exact Generator_no c s p w hp h
  · unfold genR; rw [h]
    obtain ⟨C, S, P, rfl, rfl, rfl, hv⟩ := vld_nat h
    simp only [Int.toNat_natCast, if_true]
    exact Generator_yes C S P w hv
end Go.Proofs.Ythpcneeidhmdkaa
namespace Go.Proofs.Ythpcneeidhmdkaa
open Go.RowKit
set_option linter.unusedVariables false
/-! the reference: Is, Inverse, raise -/
set_option maxHeartbeats 400000 in
theorem is_any (c s p a : Int) (w : World) :
    Calls Try.prog 88 #[fldv c s p, .int .i64 a] w fun e w' => e = .returned (.bool (isB s a)) ∧ Below w.heap.size w w' := by
  by_cases h0 : 0 ≤ a
  · by_cases h1 : a < s
    · have hI : Hid (isB s a = true) := by show _ = _; unfold isB; simp; omega
      go_enter Try.func88, Try.ntmps88
      go_wp2
      go_ret
      exact ⟨ret_bool (by rw [hI.out]), (Below.refl _ _).alloc (Nat.le_refl _) _⟩
    · have hI : Hid (isB s a = false) := by show _ = _; unfold isB; simp; omega
      go_enter Try.func88, Try.ntmps88
      go_wp2
      go_ret
      exact ⟨ret_bool (by rw [hI.out]), (Below.refl _ _).alloc (Nat.le_refl _) _⟩
  · have hI : Hid (isB s a = false) := by show _ = _; unfold isB; simp; omega
    go_enter Try.func88, Try.ntmps88
    go_wp2
    go_ret
    exact ⟨ret_bool (by rw [hI.out]), (Below.refl _ _).alloc (Nat.le_refl _) _⟩
set_option maxHeartbeats 400000 in
theorem rinverse_any (C S P : Nat) (a : Int) (w : World) (hv : VF C S P) (ha0 : 0 ≤ a) (ha : a < S) :
    Calls Try.prog 89 #[fldv C S P, .int .i64 a] w fun e w' => e = .returned (.int .i64 (finvN S P a.toNat : Nat)) ∧ Below w.heap.size w w' := by
  have hS := hv.le
  have hS2 := hv.two_le
  have HV := Lib.hid hv; clear hv
  have he : Hid (((S : Int) - 2).toNat = S - 2) := by show _ = _; omega
  go_enter Try.func89, Try.ntmps89
  go_wp2_with fail
  refine (rpower_any C S P _ _ _ HV.out ha0 ha (by omega) (by omega)).mono ?_
  rintro e w1 ⟨rfl, hb1⟩
  have hin1 := Lib.hid (InW.step (InW.start w C S P 23) hb1)
  clear hb1
  go_wp2_with fail
  go_ret
  exact ⟨ret_int (by rw [he.out]; rfl), hin1.out.below⟩
def zeroV (n : Int) : Int := if n = 0 then 1 else 0
theorem raise_mod (n M : Int) (h1 : 1 ≤ M) (h2 : M ≤ 5000) : (IntKind.i64.wrap (n.tmod M + M)).tmod M = n % M := by
  have a1 := Int.emod_nonneg n (show M ≠ 0 by omega)
  have a2 := Int.emod_lt_of_pos n (show 0 < M by omega)
  by_cases h0 : 0 ≤ n
  · have e : n.tmod M = n % M := Int.tmod_eq_emod_of_nonneg h0
    rw [e, IntWalk.i64_in _ (by omega), Int.tmod_eq_emod_of_nonneg (by omega), Int.add_emod_right, Int.emod_emod]
  · rcases tmod_neg n M h1 (by omega) with ⟨b1, b2, b3⟩ | ⟨b1, b2⟩
    · rw [IntWalk.i64_in _ (by omega), Int.tmod_eq_emod_of_nonneg (by omega), b2, Int.emod_emod]
    · rw [b1, b2, Int.zero_add, IntWalk.i64_in _ (by omega), Int.tmod_eq_emod_of_nonneg (by omega), Int.emod_self]
end Go.Proofs.Ythpcneeidhmdkaa
namespace Go.Proofs.Ythpcneeidhmdkaa
open Go.RowKit
set_option linter.unusedVariables false
set_option maxHeartbeats 400000 in
theorem rDiv_no0 (c s p a b : Int) (w : World) (hs : s ≤ 9223372036854775807) (hp : p ≤ 9223372036854775807) (hx0 : vldB c s p = false) :
    Calls Try.prog 62 #[fldv c s p, .int .i64 a, .int .i64 b] w fun e w' => e = .returned (tup (0, 1)) ∧ Below w.heap.size w w' := by
  have HX0 := Lib.hid hx0; clear hx0
  go_enter Try.func62, Try.ntmps62
  go_wp2_with fail
  refine (rvalid_any c s p _ hs hp).mono ?_
  rintro e w1 ⟨rfl, hb1⟩
  rw [HX0.out]
  have hin1 := InW.step (InW.start w c s p 23) hb1
  obtain ⟨-, hsz1, hc10, hc11, hc12⟩ := id hin1
  have HIN1 := Lib.hid hin1; clear hin1 hb1
  go_wp2_with fail
  go_ret2
  exact ⟨rfl, HIN1.out.below⟩
set_option maxHeartbeats 400000 in
theorem rDiv_no1 (c s p a b : Int) (w : World) (hs : s ≤ 9223372036854775807) (hp : p ≤ 9223372036854775807) (hx0 : vldB c s p = true) (hx1 : isB s a = false) :
    Calls Try.prog 62 #[fldv c s p, .int .i64 a, .int .i64 b] w fun e w' => e = .returned (tup (0, 1)) ∧ Below w.heap.size w w' := by
  have HX0 := Lib.hid hx0; clear hx0
  have HX1 := Lib.hid hx1; clear hx1
  go_enter Try.func62, Try.ntmps62
  go_wp2_with fail
  refine (rvalid_any c s p _ hs hp).mono ?_
  rintro e w1 ⟨rfl, hb1⟩
  rw [HX0.out]
  have hin1 := InW.step (InW.start w c s p 23) hb1
  obtain ⟨-, hsz1, hc10, hc11, hc12⟩ := id hin1
  have HIN1 := Lib.hid hin1; clear hin1 hb1
  go_wp2_with fail
  refine (is_any c s p a _).mono ?_
  rintro e w2 ⟨rfl, hb2⟩
  rw [HX1.out]
  have hin2 := InW.step HIN1.out hb2
  obtain ⟨-, hsz2, hc20, hc21, hc22⟩ := id hin2
  have HIN2 := Lib.hid hin2; clear hin2 hb2
  go_wp2_with fail
  go_ret2
  exact ⟨rfl, HIN2.out.below⟩
set_option maxHeartbeats 400000 in
theorem rDiv_no2 (c s p a b : Int) (w : World) (hs : s ≤ 9223372036854775807) (hp : p ≤ 9223372036854775807) (hx0 : vldB c s p = true) (hx1 : isB s a = true) (hx2 : isB s b = false) :
    Calls Try.prog 62 #[fldv c s p, .int .i64 a, .int .i64 b] w fun e w' => e = .returned (tup (0, 1)) ∧ Below w.heap.size w w' := by
  have HX0 := Lib.hid hx0; clear hx0
  have HX1 := Lib.hid hx1; clear hx1
  have HX2 := Lib.hid hx2; clear hx2
  go_enter Try.func62, Try.ntmps62
  go_wp2_with fail
  refine (rvalid_any c s p _ hs hp).mono ?_
  rintro e w1 ⟨rfl, hb1⟩
  rw [HX0.out]
  have hin1 := InW.step (InW.start w c s p 23) hb1
  obtain ⟨-, hsz1, hc10, hc11, hc12⟩ := id hin1
  have HIN1 := Lib.hid hin1; clear hin1 hb1
  go_wp2_with fail
  refine (is_any c s p a _).mono ?_
  rintro e w2 ⟨rfl, hb2⟩
  rw [HX1.out]
  have hin2 := InW.step HIN1.out hb2
  obtain ⟨-, hsz2, hc20, hc21, hc22⟩ := id hin2
  have HIN2 := Lib.hid hin2; clear hin2 hb2
  go_wp2_with fail
  refine (is_any c s p b _).mono ?_
  rintro e w3 ⟨rfl, hb3⟩
  rw [HX2.out]
  have hin3 := InW.step HIN2.out hb3
  obtain ⟨-, hsz3, hc30, hc31, hc32⟩ := id hin3
  have HIN3 := Lib.hid hin3; clear hin3 hb3
  go_wp2_with fail
  go_ret2
  exact ⟨rfl, HIN3.out.below⟩
theorem rDiv_no (c s p a b : Int) (w : World) (hs : s ≤ 9223372036854775807) (hp : p ≤ 9223372036854775807) (h : ok2 c s p a b = false) :
    Calls Try.prog 62 #[fldv c s p, .int .i64 a, .int .i64 b] w fun e w' => e = .returned (tup (0, 1)) ∧ Below w.heap.size w w' := by
  cases hx0 : vldB c s p
  · exact rDiv_no0 c s p a b w hs hp hx0
  cases hx1 : isB s a
  · exact rDiv_no1 c s p a b w hs hp hx0 hx1
  cases hx2 : isB s b
  · exact rDiv_no2 c s p a b w hs hp hx0 hx1 hx2
  unfold ok2 at h; rw [hx0, hx1, hx2] at h; cases h
set_option maxHeartbeats 1000000 in
theorem rDiv_zero (C S P A : Nat) (w : World) (hv : VF C S P) (ha : A < S) :
    Calls Try.prog 62 #[fldv C S P, .int .i64 A, .int .i64 0] w fun e w' => e = .returned (tup (0, 12)) ∧ Below w.heap.size w w' := by
  have hS := hv.le
  have hS2 := hv.two_le
  have hP : (P : Int) ≤ 9223372036854775807 := hv.pbd
  have hSb : (S : Int) ≤ 9223372036854775807 := by omega
  have HX0 : Hid (vldB C S P = true) := vld_of hv
  have HX1 : Hid (isB S (A : Int) = true) := isB_of ha
  have HX2 : Hid (isB S (0 : Int) = true) := isB_of (A := 0) (by omega)
  have HV := Lib.hid hv; clear hv
  go_enter Try.func62, Try.ntmps62
  go_wp2_with fail
  refine (rvalid_any C S P _ hSb hP).mono ?_
  rintro e w1 ⟨rfl, hb1⟩
  rw [HX0.out]
  have hin1 := InW.step (InW.start w C S P 23) hb1
  obtain ⟨-, hsz1, hc10, hc11, hc12⟩ := id hin1
  have HIN1 := Lib.hid hin1; clear hin1 hb1
  go_wp2_with fail
  refine (is_any C S P A _).mono ?_
  rintro e w2 ⟨rfl, hb2⟩
  rw [HX1.out]
  have hin2 := InW.step HIN1.out hb2
  obtain ⟨-, hsz2, hc20, hc21, hc22⟩ := id hin2
  have HIN2 := Lib.hid hin2; clear hin2 hb2
  go_wp2_with fail
  refine (is_any C S P 0 _).mono ?_
  rintro e w3 ⟨rfl, hb3⟩
  rw [HX2.out]
  have hin3 := InW.step HIN2.out hb3
  obtain ⟨-, hsz3, hc30, hc31, hc32⟩ := id hin3
  have HIN3 := Lib.hid hin3; clear hin3 hb3
  go_wp2_with fail
  go_ret2
  exact ⟨rfl, HIN3.out.below⟩
set_option maxHeartbeats 1000000 in
theorem rDiv_yes (C S P A B : Nat) (w : World) (hv : VF C S P) (ha : A < S) (hb : B < S) (hb0 : 0 < B) :
    Calls Try.prog 62 #[fldv C S P, .int .i64 A, .int .i64 B] w fun e w' => e = .returned (tup ((fmulN S P A (finvN S P B) : Nat), 0)) ∧ Below w.heap.size w w' := by
  have hS := hv.le
  have hS2 := hv.two_le
  have hP : (P : Int) ≤ 9223372036854775807 := hv.pbd
  have hSb : (S : Int) ≤ 9223372036854775807 := by omega
  have HX0 : Hid (vldB C S P = true) := vld_of hv
  have HX1 : Hid (isB S (A : Int) = true) := isB_of ha
  have HX2 : Hid (isB S (B : Int) = true) := isB_of hb
  have HV := Lib.hid hv; clear hv
  have hbz : (((B : Nat) : Int) == 0) = false := by rw [beq_eq_false_iff_ne]; omega
  go_enter Try.func62, Try.ntmps62
  go_wp2_with fail
  refine (rvalid_any C S P _ hSb hP).mono ?_
  rintro e w1 ⟨rfl, hb1⟩
  rw [HX0.out]
  have hin1 := InW.step (InW.start w C S P 23) hb1
  obtain ⟨-, hsz1, hc10, hc11, hc12⟩ := id hin1
  have HIN1 := Lib.hid hin1; clear hin1 hb1
  go_wp2_with fail
  refine (is_any C S P A _).mono ?_
  rintro e w2 ⟨rfl, hb2⟩
  rw [HX1.out]
  have hin2 := InW.step HIN1.out hb2
  obtain ⟨-, hsz2, hc20, hc21, hc22⟩ := id hin2
  have HIN2 := Lib.hid hin2; clear hin2 hb2
  go_wp2_with fail
  refine (is_any C S P B _).mono ?_
  rintro e w3 ⟨rfl, hb3⟩
  rw [HX2.out]
  have hin3 := InW.step HIN2.out hb3
  obtain ⟨-, hsz3, hc30, hc31, hc32⟩ := id hin3
  have HIN3 := Lib.hid hin3; clear hin3 hb3
  go_wp2_with fail
  go_region_held3 (fun w' => (w'.cell? ⟨w.heap.size, 0, none⟩ = some (.int .i64 C) ∧ w'.cell? ⟨w.heap.size, 1, none⟩ = some (.int .i64 S) ∧ w'.cell? ⟨w.heap.size, 2, none⟩ = some (.int .i64 P)) ∧ InW w C S P w') (first | exact hold_of (InW.drew HIN3.out) | exact hold_of (by assumption)) (first | (go_at_call 89; refine (rinverse_any C S P _ _ HV.out (by omega) (by omega)).mono ?_; rintro e v1 ⟨rfl, hv1⟩; have hi1 := InW.step (And.right (by assumption)) hv1) | (go_at_call 84; refine (times_any C S P _ _ _ HV.out (by omega) (by omega) (by omega) (by have := fpowN_lt HV.out B (S - 2); simp only [finvN]; omega)).mono ?_; rintro e v2 ⟨rfl, hv2⟩; have hi2 := InW.step (And.right (by assumption)) hv2))
  all_goals go_wp2
  all_goals go_ret2
  all_goals exact ⟨by simp [finvN], InW.below (And.right (by assumption))⟩
theorem rDiv_any (c s p a b : Int) (w : World) (hs : s ≤ 9223372036854775807) (hp : p ≤ 9223372036854775807) :
    Calls Try.prog 62 #[fldv c s p, .int .i64 a, .int .i64 b] w fun e w' => e = .returned (tup (divR c s p a b)) ∧ Below w.heap.size w w' := by
  cases h : ok2 c s p a b
  · unfold divR; rw [h]; exact rDiv_no c s p a b w hs hp h
  · unfold divR; rw [h]
    obtain ⟨C, S, P, A, B, rfl, rfl, rfl, rfl, rfl, ha, hb, hv⟩ := ok2_nat h
    simp only [Int.toNat_natCast, if_true]
    by_cases h0 : B = 0
    · subst h0; rw [if_pos (by rfl)]; exact rDiv_zero C S P A w hv ha
    · rw [if_neg (by omega)]; exact rDiv_yes C S P A B w hv ha hb (by omega)
set_option maxHeartbeats 400000 in
theorem rInv_any (c s p a : Int) (w : World) (hs : s ≤ 9223372036854775807) (hp : p ≤ 9223372036854775807) :
    Calls Try.prog 66 #[fldv c s p, .int .i64 a] w fun e w' => e = .returned (tup (invR c s p a)) ∧ Below w.heap.size w w' := by
  have he : Hid (divR c s p 1 a = invR c s p a) := by
    show _ = _
    unfold divR invR
    cases h : ok1 c s p a
    · have h2 : ok2 c s p 1 a = false := by
        unfold ok1 at h; unfold ok2
        rw [Bool.and_right_comm, h]; rfl
      rw [h2]; rfl
    · obtain ⟨C, S, P, A, rfl, rfl, rfl, rfl, ha, hv⟩ := ok1_nat h
      have h2 : ok2 C S P 1 A = true := ok2_of (A := 1) hv (by have := hv.two_le; omega) ha
      rw [h2]
      simp only [if_true, Int.toNat_natCast]
      rw [show (1 : Int).toNat = 1 from rfl, one_mulN hv (finvN S P A) (fpowN_lt hv A (S - 2))]
  go_enter Try.func66, Try.ntmps66
  go_wp2_with fail
  refine (rDiv_any _ _ _ _ _ _ hs hp).mono ?_
  rintro e w1 ⟨rfl, hb1⟩
  rw [he.out]
  have hin1 := Lib.hid (InW.step (InW.start w c s p 23) hb1)
  clear hb1
  go_wp2_with fail
  go_ret2
  exact ⟨rfl, hin1.out.below⟩
end Go.Proofs.Ythpcneeidhmdkaa
namespace Go.Proofs.Ythpcneeidhmdkaa
open Go.RowKit
set_option linter.unusedVariables false
theorem VF.c_le {C S P : Nat} (h : VF C S P) : C ≤ 4096 := by
  rcases h with ⟨_, h1, _, h2, _⟩ | ⟨d, _, _, _, _, h, _⟩ <;> omega
theorem VF.p_le {C S P : Nat} (h : VF C S P) : P ≤ 8192 := by
  rcases h with ⟨h1, _⟩ | ⟨d, _, h1, h2, _⟩
  · omega
  · have := (bl_le_iff P 13).1 (by omega); omega
end Go.Proofs.Ythpcneeidhmdkaa

namespace Go.Proofs.Ythpcneeidhmdkaa
open Go.RowKit
set_option linter.unusedVariables false
/-! Binary and Prime: their result is a struct -/
abbrev ftup (c s p e : Int) : Value := .tuple #[.agg #[.int .i64 c, .int .i64 s, .int .i64 p], .int .i64 e]
def binOk (d p : Int) : Bool := decide (1 ≤ d) && decide (d ≤ 12) && rirrB p d
theorem vld_bin (d p : Int) (h1 : 1 ≤ d) (h2 : d ≤ 12) : vldB 2 ((2 ^ d.toNat : Nat) : Int) p = rirrB p d := by
  obtain ⟨D, rfl⟩ := Int.eq_ofNat_of_zero_le (by omega : 0 ≤ d)
  rw [vldB_two, Int.toNat_natCast, Int.toNat_natCast, bl_two_pow]
  have e : (((D + 1 : Nat) : Int) - 1) = (D : Int) := by omega
  rw [e, show D + 1 - 1 = D from by omega]
  simp
  intro _; omega
set_option maxHeartbeats 400000 in
theorem Binary_range (d p : Int) (w : World) (h : d < 1 ∨ 12 < d) :
    Calls Try.prog 80 #[.int .i64 d, .int .i64 p] w fun e w' => e = .returned (ftup 0 0 0 3) ∧ Below w.heap.size w w' := by
  rcases h with h | h
  · go_enter Try.func80, Try.ntmps80
    go_wp2
    exact bodyPost_ret (v := ftup 0 0 0 3) (by simp [results, Try.results80, go_sem]) rfl ⟨rfl, (Below.refl _ _).alloc (Nat.le_refl _) _⟩
  · have h' : ¬ d < 1 := by omega
    go_enter Try.func80, Try.ntmps80
    go_wp2
    exact bodyPost_ret (v := ftup 0 0 0 3) (by simp [results, Try.results80, go_sem]) rfl ⟨rfl, (Below.refl _ _).alloc (Nat.le_refl _) _⟩
set_option maxHeartbeats 400000 in
theorem Binary_in (d p s : Int) (w : World) (h1 : 1 ≤ d) (h2 : d ≤ 12) (hp : p ≤ 9223372036854775807) (hs : wrap64 (2 ^ d.toNat) = s) (ok : Bool) (hok : vldB 2 s p = ok) :
    Calls Try.prog 80 #[.int .i64 d, .int .i64 p] w fun e w' => e = .returned (if ok then ftup 2 s p 0 else ftup 0 0 0 38) ∧ Below w.heap.size w w' := by
  have HOK := Lib.hid hok; clear hok
  go_enter Try.func80, Try.ntmps80
  go_wp2_with fail
  refine (valid_any _ _ _ _ hp).mono ?_
  rintro e w1 ⟨rfl, hb1⟩
  rw [HOK.out]
  obtain ⟨hbc, hbf⟩ := bcell hb1
  have c0 : w1.cell? ⟨w.heap.size, 0, none⟩ = some (.int .i64 0) := by rw [hbc _ _ (by simp; omega)]; go_simp
  have c1 : w1.cell? ⟨w.heap.size, 1, none⟩ = some (.int .i64 0) := by rw [hbc _ _ (by simp; omega)]; go_simp
  have c2 : w1.cell? ⟨w.heap.size, 2, none⟩ = some (.int .i64 0) := by rw [hbc _ _ (by simp; omega)]; go_simp
  have f0 : w1.frozen? ⟨w.heap.size, 0, none⟩ = false := by rw [hbf _ _ (by simp; omega)]; go_simp
  have f1 : w1.frozen? ⟨w.heap.size, 1, none⟩ = false := by rw [hbf _ _ (by simp; omega)]; go_simp
  have f2 : w1.frozen? ⟨w.heap.size, 2, none⟩ = false := by rw [hbf _ _ (by simp; omega)]; go_simp
  have hsz : w.heap.size + 1 < w1.heap.size := by have := hb1.size; simp at this; omega
  have d0 : w1.cell? ⟨w.heap.size + 1, 0, none⟩ = some (.int .i64 2) := by rw [hbc _ _ (by simp)]; go_simp
  have d1 : w1.cell? ⟨w.heap.size + 1, 1, none⟩ = some (.int .i64 s) := by rw [hbc _ _ (by simp)]; go_simp
  have d2 : w1.cell? ⟨w.heap.size + 1, 2, none⟩ = some (.int .i64 p) := by rw [hbc _ _ (by simp)]; go_simp
  have HB : Hid (Below w.heap.size w w1) := (((Below.refl _ _).alloc (Nat.le_refl _) _).alloc (by simp) _).trans (hb1.mono (by simp; omega))
  clear hbc hbf hb1
  cases ok
  · go_wp2
    exact bodyPost_ret (v := ftup 0 0 0 38) (by simp [results, Try.results80, go_sem, c0, c1, c2]) rfl ⟨rfl, ((HB.out.setCell (by simp) _).setCell (by simp) _).setCell (by simp) _⟩
  · go_wp2
    exact bodyPost_ret (v := ftup 2 s p 0) (by simp [results, Try.results80, go_sem, c0, c1, c2]) rfl ⟨rfl, ((HB.out.setCell (by simp) _).setCell (by simp) _).setCell (by simp) _⟩
/-- what Binary answers -/
def binV (d p : Int) : Value := if binOk d p then ftup 2 ((2 ^ d.toNat : Nat) : Int) p 0 else if 1 ≤ d ∧ d ≤ 12 then ftup 0 0 0 38 else ftup 0 0 0 3
theorem pow_wrap (d : Int) (h1 : 1 ≤ d) (h2 : d ≤ 12) : wrap64 (2 ^ d.toNat) = ((2 ^ d.toNat : Nat) : Int) := szw2 d.toNat (by omega)
theorem Binary_any (d p : Int) (w : World) (hp : p ≤ 9223372036854775807) :
    Calls Try.prog 80 #[.int .i64 d, .int .i64 p] w fun e w' => e = .returned (binV d p) ∧ Below w.heap.size w w' := by
  by_cases h : 1 ≤ d ∧ d ≤ 12
  · refine (Binary_in d p _ w h.1 h.2 hp (pow_wrap d h.1 h.2) _ rfl).mono ?_
    rintro e w' ⟨rfl, hb⟩
    refine ⟨?_, hb⟩
    unfold binV binOk
    rw [vld_bin d p h.1 h.2]
    cases rirrB p d <;> simp [h.1, h.2]
  · have : binV d p = ftup 0 0 0 3 := by
      unfold binV binOk
      rw [if_neg (by simp; omega), if_neg h]
    rw [this]
    exact Binary_range d p w (by omega)
/-! the reference's Binary -/
/-! Prime -/
def primeV (p : Int) : Value :=
  if p < 2 ∨ 4096 < p then ftup 0 0 0 3 else if primeB p.toNat then (if p = 2 then ftup 2 2 2 0 else ftup p p 0 0) else ftup 0 0 0 1
theorem binV12 : binV 1 2 = ftup 2 2 2 0 := by
  have : binOk 1 2 = true := by decide
  unfold binV; rw [this]; rfl
set_option maxHeartbeats 400000 in
theorem Prime_range (p : Int) (w : World) (h : p < 2 ∨ 4096 < p) :
    Calls Try.prog 48 #[.int .i64 p] w fun e w' => e = .returned (ftup 0 0 0 3) ∧ Below w.heap.size w w' := by
  rcases h with h | h
  · go_enter Try.func48, Try.ntmps48
    go_wp2
    exact bodyPost_ret (v := ftup 0 0 0 3) (by simp [results, Try.results48, go_sem]) rfl ⟨rfl, (Below.refl _ _).alloc (Nat.le_refl _) _⟩
  · have h' : ¬ p < 2 := by omega
    go_enter Try.func48, Try.ntmps48
    go_wp2
    exact bodyPost_ret (v := ftup 0 0 0 3) (by simp [results, Try.results48, go_sem]) rfl ⟨rfl, (Below.refl _ _).alloc (Nat.le_refl _) _⟩
set_option maxHeartbeats 400000 in
theorem Prime_no (p : Int) (w : World) (h1 : 2 ≤ p) (h2 : p ≤ 4096) (h : primeB p.toNat = false) :
    Calls Try.prog 48 #[.int .i64 p] w fun e w' => e = .returned (ftup 0 0 0 1) ∧ Below w.heap.size w w' := by
  have HH := Lib.hid h; clear h
  go_enter Try.func48, Try.ntmps48
  go_wp2_with (go_at_call 79; refine (prime_any _ _ h1 h2).mono ?_; rintro e w' ⟨rfl, rfl⟩; rw [HH.out])
  exact bodyPost_ret (v := ftup 0 0 0 1) (by simp [results, Try.results48, go_sem]) rfl ⟨rfl, (Below.refl _ _).alloc (Nat.le_refl _) _⟩
set_option maxHeartbeats 400000 in
theorem Prime_odd (p : Int) (w : World) (h1 : 2 < p) (h2 : p ≤ 4096) (h : primeB p.toNat = true) :
    Calls Try.prog 48 #[.int .i64 p] w fun e w' => e = .returned (ftup p p 0 0) ∧ Below w.heap.size w w' := by
  have HH := Lib.hid h; clear h
  have hb : (p == 2) = false := by rw [beq_eq_false_iff_ne]; omega
  go_enter Try.func48, Try.ntmps48
  go_wp2_with (go_at_call 79; refine (prime_any _ _ (by omega) h2).mono ?_; rintro e w' ⟨rfl, rfl⟩; rw [HH.out])
  exact bodyPost_ret (v := ftup p p 0 0) (by simp [results, Try.results48, go_sem]) rfl ⟨rfl, (Below.refl _ _).alloc (Nat.le_refl _) _⟩
set_option maxHeartbeats 400000 in
theorem Prime_two (w : World) :
    Calls Try.prog 48 #[.int .i64 2] w fun e w' => e = .returned (ftup 2 2 2 0) ∧ Below w.heap.size w w' := by
  have HH : Hid (primeB (2 : Int).toNat = true) := by show _ = _; decide
  go_enter Try.func48, Try.ntmps48
  go_wp2_with fail
  refine (prime_any _ _ (by omega) (by omega)).mono ?_
  rintro e w' ⟨rfl, rfl⟩
  rw [HH.out]
  go_wp2_with fail
  refine (Binary_any 1 2 _ (by omega)).mono ?_
  rintro e w1 ⟨rfl, hb1⟩
  rw [binV12]
  obtain ⟨hbc, hbf⟩ := bcell hb1
  have c0 : w1.cell? ⟨w.heap.size, 0, none⟩ = some (.int .i64 0) := by rw [hbc _ _ (by simp)]; go_simp
  have c1 : w1.cell? ⟨w.heap.size, 1, none⟩ = some (.int .i64 0) := by rw [hbc _ _ (by simp)]; go_simp
  have c2 : w1.cell? ⟨w.heap.size, 2, none⟩ = some (.int .i64 0) := by rw [hbc _ _ (by simp)]; go_simp
  have f0 : w1.frozen? ⟨w.heap.size, 0, none⟩ = false := by rw [hbf _ _ (by simp)]; go_simp
  have f1 : w1.frozen? ⟨w.heap.size, 1, none⟩ = false := by rw [hbf _ _ (by simp)]; go_simp
  have f2 : w1.frozen? ⟨w.heap.size, 2, none⟩ = false := by rw [hbf _ _ (by simp)]; go_simp
  have hsz : w.heap.size < w1.heap.size := by have := hb1.size; simp at this; omega
  have HB : Hid (Below w.heap.size w w1) := ((Below.refl _ _).alloc (Nat.le_refl _) _).trans (hb1.mono (by simp))
  clear hbc hbf hb1
  go_wp2
  exact bodyPost_ret (v := ftup 2 2 2 0) (by simp [results, Try.results48, go_sem, c0, c1, c2]) rfl ⟨rfl, ((HB.out.setCell (by simp) _).setCell (by simp) _).setCell (by simp) _⟩
theorem Prime_any (p : Int) (w : World) :
    Calls Try.prog 48 #[.int .i64 p] w fun e w' => e = .returned (primeV p) ∧ Below w.heap.size w w' := by
  by_cases h : p < 2 ∨ 4096 < p
  · unfold primeV; rw [if_pos h]; exact Prime_range p w h
  · unfold primeV; rw [if_neg h]
    cases hb : primeB p.toNat
    · exact Prime_no p w (by omega) (by omega) hb
    · by_cases h2 : p = 2
      · subst h2; exact Prime_two w
      · rw [if_neg h2]; exact Prime_odd p w (by omega) (by omega) hb
end Go.Proofs.Ythpcneeidhmdkaa
namespace Go.Proofs.Ythpcneeidhmdkaa
open Go.RowKit
set_option linter.unusedVariables false
/-! cells that a walk keeps in sight from call to call -/
def CellsAt (W : World) (b : Nat) (vs : List Value) : Prop := b < W.heap.size ∧ ∀ i, i < vs.length → W.cell? ⟨b, i, none⟩ = some (vs.getD i undef)
theorem CellsAt.below {W W' : World} {b : Nat} {vs : List Value} (h : CellsAt W b vs) (hb : Below W.heap.size W W') : CellsAt W' b vs :=
  ⟨Nat.lt_of_lt_of_le h.1 hb.size, fun i hi => (hb.cell h.1).trans (h.2 i hi)⟩
theorem CellsAt.alloc {W : World} {b : Nat} {vs : List Value} (h : CellsAt W b vs) (o : Obj) : CellsAt (W.alloc o) b vs :=
  h.below ((Below.refl _ _).alloc (Nat.le_refl _) o)
theorem CellsAt.drew {W : World} {b : Nat} {vs : List Value} (h : CellsAt W b vs) : CellsAt W.drew b vs := h
theorem CellsAt.new (W : World) (xs : Array Value) (t : TypeId) (b : Nat) (hb : b = W.heap.size) : CellsAt (W.alloc (.cells xs t)) b xs.toList := by
  refine ⟨by simp; omega, fun i hi => ?_⟩
  rw [World.cell?_alloc_at _ _ _ _ hb]
  simp at hi
  simp [Array.getElem?_eq_getElem hi]
theorem CellsAt.drewN {W : World} {b : Nat} {vs : List Value} (h : CellsAt W b vs) (n : Nat) : CellsAt (W.drewN n) b vs := h
theorem bwStep {w W w1 : World} (h : Below w.heap.size w W) (hb : Below W.heap.size W w1) : Below w.heap.size w w1 := h.trans (hb.mono h.size)
theorem bwAlloc {w W : World} (h : Below w.heap.size w W) (o : Obj) : Below w.heap.size w (W.alloc o) := h.alloc h.size o
theorem bwDrew {w W : World} (h : Below w.heap.size w W) : Below w.heap.size w W.drew := h.drew
end Go.Proofs.Ythpcneeidhmdkaa
