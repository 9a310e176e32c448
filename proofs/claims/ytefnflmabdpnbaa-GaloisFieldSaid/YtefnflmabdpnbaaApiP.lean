import Derived.Test.YtefnflmabdpnbaaWalkJ
namespace Go.Proofs.Ytefnflmabdpnbaa
open Go.RowKit
set_option linter.unusedVariables false
theorem InW.alloc {w wr : World} {c s p : Int} (h : InW w c s p wr) (o : Obj) : InW w c s p (wr.alloc o) := by
  have := Below.heap_alloc wr o w.heap.size h.2.1
  refine ⟨h.1.alloc h.1.size _, by have := h.2.1; simp; omega, ?_, ?_, ?_⟩
  · exact (World.cell?_of_block this).trans h.2.2.1
  · exact (World.cell?_of_block this).trans h.2.2.2.1
  · exact (World.cell?_of_block this).trans h.2.2.2.2
def isB (s a : Int) : Bool := decide (0 ≤ a) && decide (a < s)
def ok1 (c s p a : Int) : Bool := vldB c s p && isB s a
def ok2 (c s p a b : Int) : Bool := vldB c s p && isB s a && isB s b
theorem ok1_eq (c s p a : Int) : (vldB c s p && inB s [a]) = ok1 c s p a := by simp [inB, ok1, isB]
theorem ok2_eq (c s p a b : Int) : (vldB c s p && inB s [a, b]) = ok2 c s p a b := by simp [inB, ok2, isB, Bool.and_assoc]
theorem ok1_nat {c s p a : Int} (h : ok1 c s p a = true) : ∃ C S P A : Nat, c = C ∧ s = S ∧ p = P ∧ a = A ∧ A < S ∧ VF C S P := by
  unfold ok1 isB at h
  simp only [Bool.and_eq_true, decide_eq_true_iff] at h
  obtain ⟨C, S, P, rfl, rfl, rfl, hv⟩ := vld_nat h.1
  exact ⟨C, S, P, a.toNat, rfl, rfl, rfl, by omega, by omega, hv⟩
theorem ok2_nat {c s p a b : Int} (h : ok2 c s p a b = true) : ∃ C S P A B : Nat, c = C ∧ s = S ∧ p = P ∧ a = A ∧ b = B ∧ A < S ∧ B < S ∧ VF C S P := by
  unfold ok2 isB at h
  simp only [Bool.and_eq_true, decide_eq_true_iff] at h
  obtain ⟨C, S, P, rfl, rfl, rfl, hv⟩ := vld_nat h.1.1
  exact ⟨C, S, P, a.toNat, b.toNat, rfl, rfl, rfl, by omega, by omega, by omega, by omega, hv⟩
theorem vld_of {C S P : Nat} (h : VF C S P) : vldB C S P = true := by
  have h2 := h.two_le
  unfold vldB
  rcases h with ⟨h1, h2, h3, h4, h5⟩ | ⟨d, h1, h2, h3, h4, h5, h6⟩
  · subst h1; subst h2; rw [if_pos (by rfl)]; simp [h5]; omega
  · have hp0 : ¬ ((P : Nat) : Int) = 0 := by intro h; have : P = 0 := by omega
                                             subst this; rw [bl_zero] at h3; omega
    have hp2 : 2 ≤ P := by
      rcases Nat.lt_or_ge P 2 with h | h
      · have : P = 1 := by omega
        subst this; have e : bl 1 = 1 := by decide
        omega
      · exact h
    rw [if_neg hp0]
    subst h4; subst h5
    simp only [Int.toNat_natCast, h3, h6, Bool.and_eq_true, decide_eq_true_iff]
    refine ⟨⟨⟨⟨by omega, by omega⟩, rfl⟩, by simp⟩, trivial⟩
theorem isB_of {S A : Nat} (h : A < S) : isB S A = true := by unfold isB; simp; omega
theorem ok1_of {C S P A : Nat} (h : VF C S P) (ha : A < S) : ok1 C S P A = true := by unfold ok1; rw [vld_of h, isB_of ha]; rfl
theorem ok2_of {C S P A B : Nat} (h : VF C S P) (ha : A < S) (hb : B < S) : ok2 C S P A B = true := by unfold ok2; rw [vld_of h, isB_of ha, isB_of hb]; rfl
theorem ret_tup {a b v e : Int} (h1 : a = v) (h2 : b = e) : Ending.returned (.tuple #[.int .i64 a, .int .i64 b]) = .returned (tup (v, e)) := by rw [h1, h2]
/-! what the functions answer -/
def addR (c s p a b : Int) : Int × Int := if ok2 c s p a b then ((faddN s.toNat p.toNat a.toNat b.toNat : Nat), 0) else (0, 1)
def subR (c s p a b : Int) : Int × Int := if ok2 c s p a b then ((fsubN s.toNat p.toNat a.toNat b.toNat : Nat), 0) else (0, 1)
def mulR (c s p a b : Int) : Int × Int := if ok2 c s p a b then ((fmulN s.toNat p.toNat a.toNat b.toNat : Nat), 0) else (0, 1)
def invR (c s p a : Int) : Int × Int := if ok1 c s p a then (if a = 0 then (0, 12) else ((finvN s.toNat p.toNat a.toNat : Nat), 0)) else (0, 1)
def divR (c s p a b : Int) : Int × Int := if ok2 c s p a b then (if b = 0 then (0, 12) else ((fmulN s.toNat p.toNat a.toNat (finvN s.toNat p.toNat b.toNat) : Nat), 0)) else (0, 1)
def powR (c s p a n : Int) : Int × Int := if ok1 c s p a then (if a = 0 then (if n < 0 then (0, 12) else if n = 0 then (1, 0) else (0, 0)) else ((fpowN s.toNat p.toNat a.toNat (n % (s - 1)).toNat : Nat), 0)) else (0, 1)
noncomputable def ordR (c s p a : Int) : Int × Int := if ok1 c s p a then (if a = 0 then (0, 12) else ((ordF s.toNat p.toNat a.toNat : Nat), 0)) else (0, 1)
noncomputable def genR (c s p : Int) : Int × Int := if vldB c s p then ((genF s.toNat p.toNat : Nat), 0) else (0, 1)
noncomputable def expR (c s p n : Int) : Int × Int := if vldB c s p then ((fpowN s.toNat p.toNat (genF s.toNat p.toNat) (n % (s - 1)).toNat : Nat), 0) else (0, 1)
set_option maxHeartbeats 400000 in
theorem Add_no (c s p a b : Int) (w : World) (hp : p ≤ 9223372036854775807) (h : ok2 c s p a b = false) :
    Calls Try.prog 26 #[fldv c s p, .int .i64 a, .int .i64 b] w fun e w' => e = .returned (tup (0, 1)) ∧ Below w.heap.size w w' := by
  have HH : Hid ((vldB c s p && inB s [a, b]) = false) := (ok2_eq c s p a b).trans h
  clear h
  go_enter Try.func26, Try.ntmps26
  go_wp2_with fail
  refine (has2_any c s p a b _ _ hp (by simp) (by go_simp) (by go_simp)).mono ?_
  rintro e w1 ⟨rfl, hb1⟩
  rw [HH.out]
  have hin1 := InW.step (InW.alloc (InW.start w c s p 23) (.cells #[.int .i64 a, .int .i64 b] 3)) hb1
  obtain ⟨-, hsz1, hc10, hc11, hc12⟩ := id hin1
  have HIN1 := Lib.hid hin1; clear hin1 hb1
  go_wp2_with fail
  go_ret2
  exact ⟨rfl, HIN1.out.below⟩
set_option maxHeartbeats 400000 in
theorem Sub_no (c s p a b : Int) (w : World) (hp : p ≤ 9223372036854775807) (h : ok2 c s p a b = false) :
    Calls Try.prog 28 #[fldv c s p, .int .i64 a, .int .i64 b] w fun e w' => e = .returned (tup (0, 1)) ∧ Below w.heap.size w w' := by
  have HH : Hid ((vldB c s p && inB s [a, b]) = false) := (ok2_eq c s p a b).trans h
  clear h
  go_enter Try.func28, Try.ntmps28
  go_wp2_with fail
  refine (has2_any c s p a b _ _ hp (by simp) (by go_simp) (by go_simp)).mono ?_
  rintro e w1 ⟨rfl, hb1⟩
  rw [HH.out]
  have hin1 := InW.step (InW.alloc (InW.start w c s p 23) (.cells #[.int .i64 a, .int .i64 b] 3)) hb1
  obtain ⟨-, hsz1, hc10, hc11, hc12⟩ := id hin1
  have HIN1 := Lib.hid hin1; clear hin1 hb1
  go_wp2_with fail
  go_ret2
  exact ⟨rfl, HIN1.out.below⟩
set_option maxHeartbeats 400000 in
theorem Mul_no (c s p a b : Int) (w : World) (hp : p ≤ 9223372036854775807) (h : ok2 c s p a b = false) :
    Calls Try.prog 19 #[fldv c s p, .int .i64 a, .int .i64 b] w fun e w' => e = .returned (tup (0, 1)) ∧ Below w.heap.size w w' := by
  have HH : Hid ((vldB c s p && inB s [a, b]) = false) := (ok2_eq c s p a b).trans h
  clear h
  go_enter Try.func19, Try.ntmps19
  go_wp2_with fail
  refine (has2_any c s p a b _ _ hp (by simp) (by go_simp) (by go_simp)).mono ?_
  rintro e w1 ⟨rfl, hb1⟩
  rw [HH.out]
  have hin1 := InW.step (InW.alloc (InW.start w c s p 23) (.cells #[.int .i64 a, .int .i64 b] 3)) hb1
  obtain ⟨-, hsz1, hc10, hc11, hc12⟩ := id hin1
  have HIN1 := Lib.hid hin1; clear hin1 hb1
  go_wp2_with fail
  go_ret2
  exact ⟨rfl, HIN1.out.below⟩
set_option maxHeartbeats 400000 in
theorem Div_no (c s p a b : Int) (w : World) (hp : p ≤ 9223372036854775807) (h : ok2 c s p a b = false) :
    Calls Try.prog 31 #[fldv c s p, .int .i64 a, .int .i64 b] w fun e w' => e = .returned (tup (0, 1)) ∧ Below w.heap.size w w' := by
  have HH : Hid ((vldB c s p && inB s [a, b]) = false) := (ok2_eq c s p a b).trans h
  clear h
  go_enter Try.func31, Try.ntmps31
  go_wp2_with fail
  refine (has2_any c s p a b _ _ hp (by simp) (by go_simp) (by go_simp)).mono ?_
  rintro e w1 ⟨rfl, hb1⟩
  rw [HH.out]
  have hin1 := InW.step (InW.alloc (InW.start w c s p 23) (.cells #[.int .i64 a, .int .i64 b] 3)) hb1
  obtain ⟨-, hsz1, hc10, hc11, hc12⟩ := id hin1
  have HIN1 := Lib.hid hin1; clear hin1 hb1
  go_wp2_with fail
  go_ret2
  exact ⟨rfl, HIN1.out.below⟩
set_option maxHeartbeats 400000 in
theorem Inv_no (c s p a : Int) (w : World) (hp : p ≤ 9223372036854775807) (h : ok1 c s p a = false) :
    Calls Try.prog 33 #[fldv c s p, .int .i64 a] w fun e w' => e = .returned (tup (0, 1)) ∧ Below w.heap.size w w' := by
  have HH : Hid ((vldB c s p && inB s [a]) = false) := (ok1_eq c s p a).trans h
  clear h
  go_enter Try.func33, Try.ntmps33
  go_wp2_with fail
  refine (has1_any c s p a _ _ hp (by simp) (by go_simp)).mono ?_
  rintro e w1 ⟨rfl, hb1⟩
  rw [HH.out]
  have hin1 := InW.step (InW.alloc (InW.start w c s p 23) (.cells #[.int .i64 a] 3)) hb1
  obtain ⟨-, hsz1, hc10, hc11, hc12⟩ := id hin1
  have HIN1 := Lib.hid hin1; clear hin1 hb1
  go_wp2_with fail
  go_ret2
  exact ⟨rfl, HIN1.out.below⟩
set_option maxHeartbeats 400000 in
theorem Order_no (c s p a : Int) (w : World) (hp : p ≤ 9223372036854775807) (h : ok1 c s p a = false) :
    Calls Try.prog 21 #[fldv c s p, .int .i64 a] w fun e w' => e = .returned (tup (0, 1)) ∧ Below w.heap.size w w' := by
  have HH : Hid ((vldB c s p && inB s [a]) = false) := (ok1_eq c s p a).trans h
  clear h
  go_enter Try.func21, Try.ntmps21
  go_wp2_with fail
  refine (has1_any c s p a _ _ hp (by simp) (by go_simp)).mono ?_
  rintro e w1 ⟨rfl, hb1⟩
  rw [HH.out]
  have hin1 := InW.step (InW.alloc (InW.start w c s p 23) (.cells #[.int .i64 a] 3)) hb1
  obtain ⟨-, hsz1, hc10, hc11, hc12⟩ := id hin1
  have HIN1 := Lib.hid hin1; clear hin1 hb1
  go_wp2_with fail
  go_ret2
  exact ⟨rfl, HIN1.out.below⟩
set_option maxHeartbeats 400000 in
theorem Log_no (c s p a : Int) (w : World) (hp : p ≤ 9223372036854775807) (h : ok1 c s p a = false) :
    Calls Try.prog 18 #[fldv c s p, .int .i64 a] w fun e w' => e = .returned (tup (0, 1)) ∧ Below w.heap.size w w' := by
  have HH : Hid ((vldB c s p && inB s [a]) = false) := (ok1_eq c s p a).trans h
  clear h
  go_enter Try.func18, Try.ntmps18
  go_wp2_with fail
  refine (has1_any c s p a _ _ hp (by simp) (by go_simp)).mono ?_
  rintro e w1 ⟨rfl, hb1⟩
  rw [HH.out]
  have hin1 := InW.step (InW.alloc (InW.start w c s p 23) (.cells #[.int .i64 a] 3)) hb1
  obtain ⟨-, hsz1, hc10, hc11, hc12⟩ := id hin1
  have HIN1 := Lib.hid hin1; clear hin1 hb1
  go_wp2_with fail
  go_ret2
  exact ⟨rfl, HIN1.out.below⟩
set_option maxHeartbeats 400000 in
theorem Pow_no (c s p a n : Int) (w : World) (hp : p ≤ 9223372036854775807) (h : ok1 c s p a = false) :
    Calls Try.prog 37 #[fldv c s p, .int .i64 a, .int .i64 n] w fun e w' => e = .returned (tup (0, 1)) ∧ Below w.heap.size w w' := by
  have HH : Hid ((vldB c s p && inB s [a]) = false) := (ok1_eq c s p a).trans h
  clear h
  go_enter Try.func37, Try.ntmps37
  go_wp2_with fail
  refine (has1_any c s p a _ _ hp (by simp) (by go_simp)).mono ?_
  rintro e w1 ⟨rfl, hb1⟩
  rw [HH.out]
  have hin1 := InW.step (InW.alloc (InW.start w c s p 23) (.cells #[.int .i64 a] 3)) hb1
  obtain ⟨-, hsz1, hc10, hc11, hc12⟩ := id hin1
  have HIN1 := Lib.hid hin1; clear hin1 hb1
  go_wp2_with fail
  go_ret2
  exact ⟨rfl, HIN1.out.below⟩
set_option maxHeartbeats 400000 in
theorem Generator_no (c s p : Int) (w : World) (hp : p ≤ 9223372036854775807) (h : vldB c s p = false) :
    Calls Try.prog 23 #[fldv c s p] w fun e w' => e = .returned (tup (0, 1)) ∧ Below w.heap.size w w' := by
  have HH := Lib.hid h
  clear h
  go_enter Try.func23, Try.ntmps23
  go_wp2_with fail
  refine (has0_any c s p _ hp).mono ?_
  rintro e w1 ⟨rfl, hb1⟩
  rw [HH.out]
  have hin1 := InW.step (InW.start w c s p 23) hb1
  obtain ⟨-, hsz1, hc10, hc11, hc12⟩ := id hin1
  have HIN1 := Lib.hid hin1; clear hin1 hb1
  go_wp2_with fail
  go_ret2
  exact ⟨rfl, HIN1.out.below⟩
set_option maxHeartbeats 400000 in
theorem Exp_no (c s p n : Int) (w : World) (hp : p ≤ 9223372036854775807) (h : vldB c s p = false) :
    Calls Try.prog 20 #[fldv c s p, .int .i64 n] w fun e w' => e = .returned (tup (0, 1)) ∧ Below w.heap.size w w' := by
  have HH := Lib.hid h
  clear h
  go_enter Try.func20, Try.ntmps20
  go_wp2_with fail
  refine (has0_any c s p _ hp).mono ?_
  rintro e w1 ⟨rfl, hb1⟩
  rw [HH.out]
  have hin1 := InW.step (InW.start w c s p 23) hb1
  obtain ⟨-, hsz1, hc10, hc11, hc12⟩ := id hin1
  have HIN1 := Lib.hid hin1; clear hin1 hb1
  go_wp2_with fail
  go_ret2
  exact ⟨rfl, HIN1.out.below⟩
theorem VF.pbd {C S P : Nat} (h : VF C S P) : (P : Int) ≤ 9223372036854775807 := by
  rcases h with ⟨h1, _⟩ | ⟨d, _, h1, h2, _⟩
  · omega
  · have := (bl_le_iff P 13).1 (by omega); omega
set_option maxHeartbeats 1000000 in
theorem Add_y0 (C S P A B : Nat) (w : World) (hv : VF C S P) (ha : A < S) (hb : B < S) (h0 : P = 0) :
    Calls Try.prog 26 #[fldv C S P, .int .i64 A, .int .i64 B] w fun e w' => e = .returned (tup ((faddN S P A B : Nat), 0)) ∧ Below w.heap.size w w' := by
  have hS := hv.le
  have hS2 := hv.two_le
  have hP : (P : Int) ≤ 9223372036854775807 := hv.pbd
  have HH : Hid ((vldB C S P && inB S [(A : Int), (B : Int)]) = true) := (ok2_eq _ _ _ _ _).trans (ok2_of hv ha hb)
  have hp0 : (((P : Nat) : Int) != 0) = false := by rw [h0]; rfl
  have HE : Hid (((A : Int) + B) % S = ((faddN S P A B : Nat) : Int)) := by
    show _ = _
    unfold faddN; rw [if_pos h0, Int.natCast_emod]
    exact congrArg (fun x => x % (S : Int)) (by omega)
  clear h0 hv
  go_enter Try.func26, Try.ntmps26
  go_wp2_with fail
  refine (has2_any C S P A B _ _ hP (by simp) (by go_simp) (by go_simp)).mono ?_
  rintro e w1 ⟨rfl, hb1⟩
  rw [HH.out]
  have hin1 := InW.step (InW.alloc (InW.start w C S P 23) (.cells #[.int .i64 A, .int .i64 B] 3)) hb1
  obtain ⟨-, hsz1, hc10, hc11, hc12⟩ := id hin1
  have HIN1 := Lib.hid hin1; clear hin1 hb1
  go_wp2_with fail
  go_ret2
  exact ⟨ret_tup HE.out rfl, HIN1.out.below⟩
set_option maxHeartbeats 1000000 in
theorem Add_y1 (C S P A B : Nat) (w : World) (hv : VF C S P) (ha : A < S) (hb : B < S) (h0 : P ≠ 0) :
    Calls Try.prog 26 #[fldv C S P, .int .i64 A, .int .i64 B] w fun e w' => e = .returned (tup ((faddN S P A B : Nat), 0)) ∧ Below w.heap.size w w' := by
  have hS := hv.le
  have hS2 := hv.two_le
  have hP : (P : Int) ≤ 9223372036854775807 := hv.pbd
  have HH : Hid ((vldB C S P && inB S [(A : Int), (B : Int)]) = true) := (ok2_eq _ _ _ _ _).trans (ok2_of hv ha hb)
  have hp0 : (((P : Nat) : Int) != 0) = true := by rw [bne_iff_ne]; omega
  have HE : Hid (bits BinOp.xor IntKind.i64 (A : Int) (B : Int) = ((faddN S P A B : Nat) : Int)) := by
    show _ = _
    unfold faddN; rw [if_neg h0]; exact i64_xor_nat A B (by omega) (by omega)
  clear h0 hv
  go_enter Try.func26, Try.ntmps26
  go_wp2_with fail
  refine (has2_any C S P A B _ _ hP (by simp) (by go_simp) (by go_simp)).mono ?_
  rintro e w1 ⟨rfl, hb1⟩
  rw [HH.out]
  have hin1 := InW.step (InW.alloc (InW.start w C S P 23) (.cells #[.int .i64 A, .int .i64 B] 3)) hb1
  obtain ⟨-, hsz1, hc10, hc11, hc12⟩ := id hin1
  have HIN1 := Lib.hid hin1; clear hin1 hb1
  go_wp2_with fail
  go_ret2
  exact ⟨ret_tup HE.out rfl, HIN1.out.below⟩
set_option maxHeartbeats 1000000 in
theorem Sub_y0 (C S P A B : Nat) (w : World) (hv : VF C S P) (ha : A < S) (hb : B < S) (h0 : P = 0) :
    Calls Try.prog 28 #[fldv C S P, .int .i64 A, .int .i64 B] w fun e w' => e = .returned (tup ((fsubN S P A B : Nat), 0)) ∧ Below w.heap.size w w' := by
  have hS := hv.le
  have hS2 := hv.two_le
  have hP : (P : Int) ≤ 9223372036854775807 := hv.pbd
  have HH : Hid ((vldB C S P && inB S [(A : Int), (B : Int)]) = true) := (ok2_eq _ _ _ _ _).trans (ok2_of hv ha hb)
  have hp0 : (((P : Nat) : Int) != 0) = false := by rw [h0]; rfl
  have HE : Hid (((A : Int) - B + S) % S = ((fsubN S P A B : Nat) : Int)) := by
    show _ = _
    unfold fsubN; rw [if_pos h0, Int.natCast_emod]
    exact congrArg (fun x => x % (S : Int)) (by omega)
  clear h0 hv
  go_enter Try.func28, Try.ntmps28
  go_wp2_with fail
  refine (has2_any C S P A B _ _ hP (by simp) (by go_simp) (by go_simp)).mono ?_
  rintro e w1 ⟨rfl, hb1⟩
  rw [HH.out]
  have hin1 := InW.step (InW.alloc (InW.start w C S P 23) (.cells #[.int .i64 A, .int .i64 B] 3)) hb1
  obtain ⟨-, hsz1, hc10, hc11, hc12⟩ := id hin1
  have HIN1 := Lib.hid hin1; clear hin1 hb1
  go_wp2_with fail
  go_ret2
  exact ⟨ret_tup HE.out rfl, HIN1.out.below⟩
set_option maxHeartbeats 1000000 in
theorem Sub_y1 (C S P A B : Nat) (w : World) (hv : VF C S P) (ha : A < S) (hb : B < S) (h0 : P ≠ 0) :
    Calls Try.prog 28 #[fldv C S P, .int .i64 A, .int .i64 B] w fun e w' => e = .returned (tup ((fsubN S P A B : Nat), 0)) ∧ Below w.heap.size w w' := by
  have hS := hv.le
  have hS2 := hv.two_le
  have hP : (P : Int) ≤ 9223372036854775807 := hv.pbd
  have HH : Hid ((vldB C S P && inB S [(A : Int), (B : Int)]) = true) := (ok2_eq _ _ _ _ _).trans (ok2_of hv ha hb)
  have hp0 : (((P : Nat) : Int) != 0) = true := by rw [bne_iff_ne]; omega
  have HE : Hid (bits BinOp.xor IntKind.i64 (A : Int) (B : Int) = ((fsubN S P A B : Nat) : Int)) := by
    show _ = _
    unfold fsubN; rw [if_neg h0]; exact i64_xor_nat A B (by omega) (by omega)
  clear h0 hv
  go_enter Try.func28, Try.ntmps28
  go_wp2_with fail
  refine (has2_any C S P A B _ _ hP (by simp) (by go_simp) (by go_simp)).mono ?_
  rintro e w1 ⟨rfl, hb1⟩
  rw [HH.out]
  have hin1 := InW.step (InW.alloc (InW.start w C S P 23) (.cells #[.int .i64 A, .int .i64 B] 3)) hb1
  obtain ⟨-, hsz1, hc10, hc11, hc12⟩ := id hin1
  have HIN1 := Lib.hid hin1; clear hin1 hb1
  go_wp2_with fail
  go_ret2
  exact ⟨ret_tup HE.out rfl, HIN1.out.below⟩
set_option maxHeartbeats 1000000 in
theorem Mul_yes (C S P A B : Nat) (w : World) (hv : VF C S P) (ha : A < S) (hb : B < S) :
    Calls Try.prog 19 #[fldv C S P, .int .i64 A, .int .i64 B] w fun e w' => e = .returned (tup ((fmulN S P A B : Nat), 0)) ∧ Below w.heap.size w w' := by
  have hS := hv.le
  have hS2 := hv.two_le
  have hP : (P : Int) ≤ 9223372036854775807 := hv.pbd
  have HH : Hid ((vldB C S P && inB S [(A : Int), (B : Int)]) = true) := (ok2_eq _ _ _ _ _).trans (ok2_of hv ha hb)
  have HV := Lib.hid hv; clear hv
  go_enter Try.func19, Try.ntmps19
  go_wp2_with fail
  refine (has2_any C S P A B _ _ hP (by simp) (by go_simp) (by go_simp)).mono ?_
  rintro e w1 ⟨rfl, hb1⟩
  rw [HH.out]
  have hin1 := InW.step (InW.alloc (InW.start w C S P 23) (.cells #[.int .i64 A, .int .i64 B] 3)) hb1
  obtain ⟨-, hsz1, hc10, hc11, hc12⟩ := id hin1
  have HIN1 := Lib.hid hin1; clear hin1 hb1
  go_wp2_with fail
  refine (product_any C S P _ _ _ HV.out (by omega) (by omega) (by omega) (by omega)).mono ?_
  rintro e w2 ⟨rfl, hb2⟩
  have hin2 := InW.step HIN1.out hb2
  obtain ⟨-, hsz2, hc20, hc21, hc22⟩ := id hin2
  have HIN2 := Lib.hid hin2; clear hin2 hb2
  go_wp2_with fail
  go_ret2
  exact ⟨rfl, HIN2.out.below⟩
set_option maxHeartbeats 1000000 in
theorem Div_zero (C S P A : Nat) (w : World) (hv : VF C S P) (ha : A < S) :
    Calls Try.prog 31 #[fldv C S P, .int .i64 A, .int .i64 0] w fun e w' => e = .returned (tup (0, 12)) ∧ Below w.heap.size w w' := by
  have hS := hv.le
  have hS2 := hv.two_le
  have hP : (P : Int) ≤ 9223372036854775807 := hv.pbd
  have HH : Hid ((vldB C S P && inB S [(A : Int), (0 : Int)]) = true) := (ok2_eq _ _ _ _ _).trans (ok2_of (B := 0) hv ha (by omega))
  have HV := Lib.hid hv; clear hv
  go_enter Try.func31, Try.ntmps31
  go_wp2_with fail
  refine (has2_any C S P A 0 _ _ hP (by simp) (by go_simp) (by go_simp)).mono ?_
  rintro e w1 ⟨rfl, hb1⟩
  rw [HH.out]
  have hin1 := InW.step (InW.alloc (InW.start w C S P 23) (.cells #[.int .i64 A, .int .i64 0] 3)) hb1
  obtain ⟨-, hsz1, hc10, hc11, hc12⟩ := id hin1
  have HIN1 := Lib.hid hin1; clear hin1 hb1
  go_wp2_with fail
  go_ret2
  exact ⟨rfl, HIN1.out.below⟩
set_option maxHeartbeats 1000000 in
theorem Div_yes (C S P A B : Nat) (w : World) (hv : VF C S P) (ha : A < S) (hb : B < S) (hb0 : 0 < B) :
    Calls Try.prog 31 #[fldv C S P, .int .i64 A, .int .i64 B] w fun e w' => e = .returned (tup ((fmulN S P A (finvN S P B) : Nat), 0)) ∧ Below w.heap.size w w' := by
  have hS := hv.le
  have hS2 := hv.two_le
  have hP : (P : Int) ≤ 9223372036854775807 := hv.pbd
  have HH : Hid ((vldB C S P && inB S [(A : Int), (B : Int)]) = true) := (ok2_eq _ _ _ _ _).trans (ok2_of hv ha hb)
  have HV := Lib.hid hv; clear hv
  have hbz : (((B : Nat) : Int) == 0) = false := by rw [beq_eq_false_iff_ne]; omega
  go_enter Try.func31, Try.ntmps31
  go_wp2_with fail
  refine (has2_any C S P A B _ _ hP (by simp) (by go_simp) (by go_simp)).mono ?_
  rintro e w1 ⟨rfl, hb1⟩
  rw [HH.out]
  have hin1 := InW.step (InW.alloc (InW.start w C S P 23) (.cells #[.int .i64 A, .int .i64 B] 3)) hb1
  obtain ⟨-, hsz1, hc10, hc11, hc12⟩ := id hin1
  have HIN1 := Lib.hid hin1; clear hin1 hb1
  go_wp2_with fail
  go_region_held3 (fun w' => (w'.cell? ⟨w.heap.size, 0, none⟩ = some (.int .i64 C) ∧ w'.cell? ⟨w.heap.size, 1, none⟩ = some (.int .i64 S) ∧ w'.cell? ⟨w.heap.size, 2, none⟩ = some (.int .i64 P)) ∧ InW w C S P w') (first | exact hold_of (InW.drew HIN1.out) | exact hold_of (by assumption)) (first | (go_at_call 59; refine (inverse_any C S P _ _ HV.out (by omega) (by omega)).mono ?_; rintro e v1 ⟨rfl, hv1⟩; have hi1 := InW.step (And.right (by assumption)) hv1) | (go_at_call 49; refine (product_any C S P _ _ _ HV.out (by omega) (by omega) (by omega) (by have := fpowN_lt HV.out B (S - 2); simp; omega)).mono ?_; rintro e v2 ⟨rfl, hv2⟩; have hi2 := InW.step (And.right (by assumption)) hv2))
  all_goals go_wp2
  all_goals go_ret2
  all_goals exact ⟨by simp [finvN], InW.below (And.right (by assumption))⟩
set_option maxHeartbeats 1000000 in
theorem Inv_zero (C S P : Nat) (w : World) (hv : VF C S P) :
    Calls Try.prog 33 #[fldv C S P, .int .i64 0] w fun e w' => e = .returned (tup (0, 12)) ∧ Below w.heap.size w w' := by
  have hS := hv.le
  have hS2 := hv.two_le
  have hP : (P : Int) ≤ 9223372036854775807 := hv.pbd
  have HH : Hid ((vldB C S P && inB S [(0 : Int)]) = true) := (ok1_eq _ _ _ _).trans (ok1_of (A := 0) hv (by omega))
  have HV := Lib.hid hv; clear hv
  go_enter Try.func33, Try.ntmps33
  go_wp2_with fail
  refine (has1_any C S P 0 _ _ hP (by simp) (by go_simp)).mono ?_
  rintro e w1 ⟨rfl, hb1⟩
  rw [HH.out]
  have hin1 := InW.step (InW.alloc (InW.start w C S P 23) (.cells #[.int .i64 0] 3)) hb1
  obtain ⟨-, hsz1, hc10, hc11, hc12⟩ := id hin1
  have HIN1 := Lib.hid hin1; clear hin1 hb1
  go_wp2_with fail
  go_ret2
  exact ⟨rfl, HIN1.out.below⟩
set_option maxHeartbeats 1000000 in
theorem Inv_yes (C S P A : Nat) (w : World) (hv : VF C S P) (ha : A < S) (ha0 : 0 < A) :
    Calls Try.prog 33 #[fldv C S P, .int .i64 A] w fun e w' => e = .returned (tup ((finvN S P A : Nat), 0)) ∧ Below w.heap.size w w' := by
  have hS := hv.le
  have hS2 := hv.two_le
  have hP : (P : Int) ≤ 9223372036854775807 := hv.pbd
  have HH : Hid ((vldB C S P && inB S [(A : Int)]) = true) := (ok1_eq _ _ _ _).trans (ok1_of hv ha)
  have HV := Lib.hid hv; clear hv
  have hbz : (((A : Nat) : Int) == 0) = false := by rw [beq_eq_false_iff_ne]; omega
  go_enter Try.func33, Try.ntmps33
  go_wp2_with fail
  refine (has1_any C S P A _ _ hP (by simp) (by go_simp)).mono ?_
  rintro e w1 ⟨rfl, hb1⟩
  rw [HH.out]
  have hin1 := InW.step (InW.alloc (InW.start w C S P 23) (.cells #[.int .i64 A] 3)) hb1
  obtain ⟨-, hsz1, hc10, hc11, hc12⟩ := id hin1
  have HIN1 := Lib.hid hin1; clear hin1 hb1
  go_wp2_with fail
  refine (inverse_any C S P _ _ HV.out (by omega) (by omega)).mono ?_
  rintro e w2 ⟨rfl, hb2⟩
  have hin2 := InW.step HIN1.out hb2
  obtain ⟨-, hsz2, hc20, hc21, hc22⟩ := id hin2
  have HIN2 := Lib.hid hin2; clear hin2 hb2
  go_wp2_with fail
  go_ret2
  exact ⟨by simp [finvN], HIN2.out.below⟩
set_option maxHeartbeats 1000000 in
theorem Order_zero (C S P : Nat) (w : World) (hv : VF C S P) :
    Calls Try.prog 21 #[fldv C S P, .int .i64 0] w fun e w' => e = .returned (tup (0, 12)) ∧ Below w.heap.size w w' := by
  have hS := hv.le
  have hS2 := hv.two_le
  have hP : (P : Int) ≤ 9223372036854775807 := hv.pbd
  have HH : Hid ((vldB C S P && inB S [(0 : Int)]) = true) := (ok1_eq _ _ _ _).trans (ok1_of (A := 0) hv (by omega))
  have HV := Lib.hid hv; clear hv
  go_enter Try.func21, Try.ntmps21
  go_wp2_with fail
  refine (has1_any C S P 0 _ _ hP (by simp) (by go_simp)).mono ?_
  rintro e w1 ⟨rfl, hb1⟩
  rw [HH.out]
  have hin1 := InW.step (InW.alloc (InW.start w C S P 23) (.cells #[.int .i64 0] 3)) hb1
  obtain ⟨-, hsz1, hc10, hc11, hc12⟩ := id hin1
  have HIN1 := Lib.hid hin1; clear hin1 hb1
  go_wp2_with fail
  go_ret2
  exact ⟨rfl, HIN1.out.below⟩
set_option maxHeartbeats 1000000 in
theorem Order_yes (C S P A : Nat) (w : World) (hv : VF C S P) (ha : A < S) (ha0 : 0 < A) :
    Calls Try.prog 21 #[fldv C S P, .int .i64 A] w fun e w' => e = .returned (tup ((ordF S P A : Nat), 0)) ∧ Below w.heap.size w w' := by
  have hS := hv.le
  have hS2 := hv.two_le
  have hP : (P : Int) ≤ 9223372036854775807 := hv.pbd
  have HH : Hid ((vldB C S P && inB S [(A : Int)]) = true) := (ok1_eq _ _ _ _).trans (ok1_of hv ha)
  have HV := Lib.hid hv; clear hv
  have hbz : (((A : Nat) : Int) == 0) = false := by rw [beq_eq_false_iff_ne]; omega
  go_enter Try.func21, Try.ntmps21
  go_wp2_with fail
  refine (has1_any C S P A _ _ hP (by simp) (by go_simp)).mono ?_
  rintro e w1 ⟨rfl, hb1⟩
  rw [HH.out]
  have hin1 := InW.step (InW.alloc (InW.start w C S P 23) (.cells #[.int .i64 A] 3)) hb1
  obtain ⟨-, hsz1, hc10, hc11, hc12⟩ := id hin1
  have HIN1 := Lib.hid hin1; clear hin1 hb1
  go_wp2_with fail
  refine (order_any C S P _ _ HV.out (by omega) (by omega)).mono ?_
  rintro e w2 ⟨rfl, hb2⟩
  have hin2 := InW.step HIN1.out hb2
  obtain ⟨-, hsz2, hc20, hc21, hc22⟩ := id hin2
  have HIN2 := Lib.hid hin2; clear hin2 hb2
  go_wp2_with fail
  go_ret2
  exact ⟨rfl, HIN2.out.below⟩
set_option maxHeartbeats 1000000 in
theorem Generator_yes (C S P : Nat) (w : World) (hv : VF C S P) :
    Calls Try.prog 23 #[fldv C S P] w fun e w' => e = .returned (tup ((genF S P : Nat), 0)) ∧ Below w.heap.size w w' := by
  have hS := hv.le
  have hS2 := hv.two_le
  have hP : (P : Int) ≤ 9223372036854775807 := hv.pbd
  have HH : Hid (vldB C S P = true) := vld_of hv
  have HV := Lib.hid hv; clear hv
  go_enter Try.func23, Try.ntmps23
  go_wp2_with fail
  refine (has0_any C S P _ hP).mono ?_
  rintro e w1 ⟨rfl, hb1⟩
  rw [HH.out]
  have hin1 := InW.step (InW.start w C S P 23) hb1
  obtain ⟨-, hsz1, hc10, hc11, hc12⟩ := id hin1
  have HIN1 := Lib.hid hin1; clear hin1 hb1
  go_wp2_with fail
  refine (generator_any C S P _ HV.out).mono ?_
  rintro e w2 ⟨rfl, hb2⟩
  have hin2 := InW.step HIN1.out hb2
  obtain ⟨-, hsz2, hc20, hc21, hc22⟩ := id hin2
  have HIN2 := Lib.hid hin2; clear hin2 hb2
  go_wp2_with fail
  go_ret2
  exact ⟨rfl, HIN2.out.below⟩
set_option maxHeartbeats 1000000 in
theorem Pow_neg (C S P : Nat) (n : Int) (w : World) (hv : VF C S P) (hn : n < 0) :
    Calls Try.prog 37 #[fldv C S P, .int .i64 0, .int .i64 n] w fun e w' => e = .returned (tup (0, 12)) ∧ Below w.heap.size w w' := by
  have hS := hv.le
  have hS2 := hv.two_le
  have hP : (P : Int) ≤ 9223372036854775807 := hv.pbd
  have HH : Hid ((vldB C S P && inB S [(0 : Int)]) = true) := (ok1_eq _ _ _ _).trans (ok1_of (A := 0) hv (by omega))
  have HV := Lib.hid hv; clear hv
  go_enter Try.func37, Try.ntmps37
  go_wp2_with fail
  refine (has1_any C S P 0 _ _ hP (by simp) (by go_simp)).mono ?_
  rintro e w1 ⟨rfl, hb1⟩
  rw [HH.out]
  have hin1 := InW.step (InW.alloc (InW.start w C S P 23) (.cells #[.int .i64 0] 3)) hb1
  obtain ⟨-, hsz1, hc10, hc11, hc12⟩ := id hin1
  have HIN1 := Lib.hid hin1; clear hin1 hb1
  go_wp2_with fail
  go_ret2
  exact ⟨rfl, HIN1.out.below⟩
set_option maxHeartbeats 1000000 in
theorem Pow_zero (C S P : Nat) (n : Int) (w : World) (hv : VF C S P) (hn : n = 0) :
    Calls Try.prog 37 #[fldv C S P, .int .i64 0, .int .i64 n] w fun e w' => e = .returned (tup (1, 0)) ∧ Below w.heap.size w w' := by
  have hS := hv.le
  have hS2 := hv.two_le
  have hP : (P : Int) ≤ 9223372036854775807 := hv.pbd
  have HH : Hid ((vldB C S P && inB S [(0 : Int)]) = true) := (ok1_eq _ _ _ _).trans (ok1_of (A := 0) hv (by omega))
  have HV := Lib.hid hv; clear hv
  subst hn
  go_enter Try.func37, Try.ntmps37
  go_wp2_with fail
  refine (has1_any C S P 0 _ _ hP (by simp) (by go_simp)).mono ?_
  rintro e w1 ⟨rfl, hb1⟩
  rw [HH.out]
  have hin1 := InW.step (InW.alloc (InW.start w C S P 23) (.cells #[.int .i64 0] 3)) hb1
  obtain ⟨-, hsz1, hc10, hc11, hc12⟩ := id hin1
  have HIN1 := Lib.hid hin1; clear hin1 hb1
  go_wp2_with fail
  go_ret2
  exact ⟨rfl, HIN1.out.below⟩
set_option maxHeartbeats 1000000 in
theorem Pow_pos (C S P : Nat) (n : Int) (w : World) (hv : VF C S P) (hn : 0 < n) :
    Calls Try.prog 37 #[fldv C S P, .int .i64 0, .int .i64 n] w fun e w' => e = .returned (tup (0, 0)) ∧ Below w.heap.size w w' := by
  have hS := hv.le
  have hS2 := hv.two_le
  have hP : (P : Int) ≤ 9223372036854775807 := hv.pbd
  have HH : Hid ((vldB C S P && inB S [(0 : Int)]) = true) := (ok1_eq _ _ _ _).trans (ok1_of (A := 0) hv (by omega))
  have HV := Lib.hid hv; clear hv
  have hnz : ((n : Int) == 0) = false := by rw [beq_eq_false_iff_ne]; omega
  go_enter Try.func37, Try.ntmps37
  go_wp2_with fail
  refine (has1_any C S P 0 _ _ hP (by simp) (by go_simp)).mono ?_
  rintro e w1 ⟨rfl, hb1⟩
  rw [HH.out]
  have hin1 := InW.step (InW.alloc (InW.start w C S P 23) (.cells #[.int .i64 0] 3)) hb1
  obtain ⟨-, hsz1, hc10, hc11, hc12⟩ := id hin1
  have HIN1 := Lib.hid hin1; clear hin1 hb1
  go_wp2_with fail
  go_ret2
  exact ⟨rfl, HIN1.out.below⟩
set_option maxHeartbeats 1000000 in
theorem Pow_yes (C S P A : Nat) (n : Int) (w : World) (hv : VF C S P) (ha : A < S) (ha0 : 0 < A) (hn0 : -9223372036854775808 ≤ n) (hn1 : n ≤ 9223372036854775807) :
    Calls Try.prog 37 #[fldv C S P, .int .i64 A, .int .i64 n] w fun e w' => e = .returned (tup ((fpowN S P A (n % ((S : Int) - 1)).toNat : Nat), 0)) ∧ Below w.heap.size w w' := by
  have hS := hv.le
  have hS2 := hv.two_le
  have hP : (P : Int) ≤ 9223372036854775807 := hv.pbd
  have HH : Hid ((vldB C S P && inB S [(A : Int)]) = true) := (ok1_eq _ _ _ _).trans (ok1_of hv ha)
  have HV := Lib.hid hv; clear hv
  have hbz : (((A : Nat) : Int) != 0) = true := by rw [bne_iff_ne]; omega
  have he0 : 0 ≤ n % ((S : Int) - 1) := Int.emod_nonneg _ (by omega)
  have he1 : n % ((S : Int) - 1) < (S : Int) - 1 := Int.emod_lt_of_pos _ (by omega)
  go_enter Try.func37, Try.ntmps37
  go_wp2_with fail
  refine (has1_any C S P A _ _ hP (by simp) (by go_simp)).mono ?_
  rintro e w1 ⟨rfl, hb1⟩
  rw [HH.out]
  have hin1 := InW.step (InW.alloc (InW.start w C S P 23) (.cells #[.int .i64 A] 3)) hb1
  obtain ⟨-, hsz1, hc10, hc11, hc12⟩ := id hin1
  have HIN1 := Lib.hid hin1; clear hin1 hb1
  go_wp2_with fail
  go_region_held3 (fun w' => (w'.cell? ⟨w.heap.size, 0, none⟩ = some (.int .i64 C) ∧ w'.cell? ⟨w.heap.size, 1, none⟩ = some (.int .i64 S) ∧ w'.cell? ⟨w.heap.size, 2, none⟩ = some (.int .i64 P)) ∧ InW w C S P w') (first | exact hold_of (InW.drew HIN1.out) | exact hold_of (by assumption)) (first | (go_at_call 52; refine (exponent_any C S P _ _ hS2 hS hn0 hn1).mono ?_; rintro e v1 ⟨rfl, hv1⟩; have hi1 := InW.step (And.right (by assumption)) hv1) | (go_at_call 50; refine (power_any C S P _ _ _ HV.out (by omega) (by omega) he0 (by omega)).mono ?_; rintro e v2 ⟨rfl, hv2⟩; have hi2 := InW.step (And.right (by assumption)) hv2))
  all_goals go_wp2
  all_goals go_ret2
  all_goals exact ⟨by simp, InW.below (And.right (by assumption))⟩
set_option maxHeartbeats 1000000 in
theorem Exp_yes (C S P : Nat) (n : Int) (w : World) (hv : VF C S P) (hn0 : -9223372036854775808 ≤ n) (hn1 : n ≤ 9223372036854775807) :
    Calls Try.prog 20 #[fldv C S P, .int .i64 n] w fun e w' => e = .returned (tup ((fpowN S P (genF S P) (n % ((S : Int) - 1)).toNat : Nat), 0)) ∧ Below w.heap.size w w' := by
  have hS := hv.le
  have hS2 := hv.two_le
  have hP : (P : Int) ≤ 9223372036854775807 := hv.pbd
  have HH : Hid (vldB C S P = true) := vld_of hv
  have HV := Lib.hid hv; clear hv
  have he0 : 0 ≤ n % ((S : Int) - 1) := Int.emod_nonneg _ (by omega)
  have he1 : n % ((S : Int) - 1) < (S : Int) - 1 := Int.emod_lt_of_pos _ (by omega)
  go_enter Try.func20, Try.ntmps20
  go_wp2_with fail
  refine (has0_any C S P _ hP).mono ?_
  rintro e w1 ⟨rfl, hb1⟩
  rw [HH.out]
  have hin1 := InW.step (InW.start w C S P 23) hb1
  obtain ⟨-, hsz1, hc10, hc11, hc12⟩ := id hin1
  have HIN1 := Lib.hid hin1; clear hin1 hb1
  go_wp2_with fail
  go_region_held3 (fun w' => (w'.cell? ⟨w.heap.size, 0, none⟩ = some (.int .i64 C) ∧ w'.cell? ⟨w.heap.size, 1, none⟩ = some (.int .i64 S) ∧ w'.cell? ⟨w.heap.size, 2, none⟩ = some (.int .i64 P)) ∧ InW w C S P w') (first | exact hold_of (InW.drew HIN1.out) | exact hold_of (by assumption)) (first | (go_at_call 51; refine (generator_any C S P _ HV.out).mono ?_; rintro e v0 ⟨rfl, hv0⟩; have hi0 := InW.step (And.right (by assumption)) hv0) | (go_at_call 52; refine (exponent_any C S P _ _ hS2 hS hn0 hn1).mono ?_; rintro e v1 ⟨rfl, hv1⟩; have hi1 := InW.step (And.right (by assumption)) hv1) | (go_at_call 50; refine (power_any C S P _ _ _ HV.out (by omega) (by have := (genF_spec HV.out).2.1; omega) he0 (by omega)).mono ?_; rintro e v2 ⟨rfl, hv2⟩; have hi2 := InW.step (And.right (by assumption)) hv2))
  all_goals go_wp2
  all_goals go_ret2
  all_goals exact ⟨by simp, InW.below (And.right (by assumption))⟩
theorem Add_any (c s p a b : Int) (w : World) (hs : s ≤ 9223372036854775807) (hp : p ≤ 9223372036854775807) :
    Calls Try.prog 26 #[fldv c s p, .int .i64 a, .int .i64 b] w fun e w' => e = .returned (tup (addR c s p a b)) ∧ Below w.heap.size w w' := by
  cases h : ok2 c s p a b
  · unfold addR; rw [h]; exact Add_no c s p a b w hp h
  · unfold addR; rw [h]
    obtain ⟨C, S, P, A, B, rfl, rfl, rfl, rfl, rfl, ha, hb, hv⟩ := ok2_nat h
    simp only [Int.toNat_natCast, if_true]
    by_cases h0 : P = 0
    · exact Add_y0 C S P A B w hv ha hb h0
    · exact Add_y1 C S P A B w hv ha hb h0
theorem Sub_any (c s p a b : Int) (w : World) (hs : s ≤ 9223372036854775807) (hp : p ≤ 9223372036854775807) :
    Calls Try.prog 28 #[fldv c s p, .int .i64 a, .int .i64 b] w fun e w' => e = .returned (tup (subR c s p a b)) ∧ Below w.heap.size w w' := by
  cases h : ok2 c s p a b
  · unfold subR; rw [h]; exact Sub_no c s p a b w hp h
  · unfold subR; rw [h]
    obtain ⟨C, S, P, A, B, rfl, rfl, rfl, rfl, rfl, ha, hb, hv⟩ := ok2_nat h
    simp only [Int.toNat_natCast, if_true]
    by_cases h0 : P = 0
    · exact Sub_y0 C S P A B w hv ha hb h0
    · exact Sub_y1 C S P A B w hv ha hb h0
theorem Mul_any (c s p a b : Int) (w : World) (hs : s ≤ 9223372036854775807) (hp : p ≤ 9223372036854775807) :
    Calls Try.prog 19 #[fldv c s p, .int .i64 a, .int .i64 b] w fun e w' => e = .returned (tup (mulR c s p a b)) ∧ Below w.heap.size w w' := by
  cases h : ok2 c s p a b
  · unfold mulR; rw [h]; exact Mul_no c s p a b w hp h
  · unfold mulR; rw [h]
    obtain ⟨C, S, P, A, B, rfl, rfl, rfl, rfl, rfl, ha, hb, hv⟩ := ok2_nat h
    simp only [Int.toNat_natCast, if_true]
    exact Mul_yes C S P A B w hv ha hb
theorem Div_any (c s p a b : Int) (w : World) (hs : s ≤ 9223372036854775807) (hp : p ≤ 9223372036854775807) :
    Calls Try.prog 31 #[fldv c s p, .int .i64 a, .int .i64 b] w fun e w' => e = .returned (tup (divR c s p a b)) ∧ Below w.heap.size w w' := by
  cases h : ok2 c s p a b
  · unfold divR; rw [h]; exact Div_no c s p a b w hp h
  · unfold divR; rw [h]
    obtain ⟨C, S, P, A, B, rfl, rfl, rfl, rfl, rfl, ha, hb, hv⟩ := ok2_nat h
    simp only [Int.toNat_natCast, if_true]
    by_cases h0 : B = 0
    · subst h0; rw [if_pos (by rfl)]; exact Div_zero C S P A w hv ha
    · rw [if_neg (by omega)]; exact Div_yes C S P A B w hv ha hb (by omega)
theorem Inv_any (c s p a : Int) (w : World) (hs : s ≤ 9223372036854775807) (hp : p ≤ 9223372036854775807) :
    Calls Try.prog 33 #[fldv c s p, .int .i64 a] w fun e w' => e = .returned (tup (invR c s p a)) ∧ Below w.heap.size w w' := by
  cases h : ok1 c s p a
  · unfold invR; rw [h]; exact Inv_no c s p a w hp h
  · unfold invR; rw [h]
    obtain ⟨C, S, P, A, rfl, rfl, rfl, rfl, ha, hv⟩ := ok1_nat h
    simp only [Int.toNat_natCast, if_true]
    by_cases h0 : A = 0
    · subst h0; rw [if_pos (by rfl)]; exact Inv_zero C S P w hv
    · rw [if_neg (by omega)]; exact Inv_yes C S P A w hv ha (by omega)
theorem Order_any (c s p a : Int) (w : World) (hs : s ≤ 9223372036854775807) (hp : p ≤ 9223372036854775807) :
    Calls Try.prog 21 #[fldv c s p, .int .i64 a] w fun e w' => e = .returned (tup (ordR c s p a)) ∧ Below w.heap.size w w' := by
  cases h : ok1 c s p a
  · unfold ordR; rw [h]; exact Order_no c s p a w hp h
  · unfold ordR; rw [h]
    obtain ⟨C, S, P, A, rfl, rfl, rfl, rfl, ha, hv⟩ := ok1_nat h
    simp only [Int.toNat_natCast, if_true]
    by_cases h0 : A = 0
    · subst h0; rw [if_pos (by rfl)]; exact Order_zero C S P w hv
    · rw [if_neg (by omega)]; exact Order_yes C S P A w hv ha (by omega)
theorem Pow_any (c s p a n : Int) (w : World) (hs : s ≤ 9223372036854775807) (hp : p ≤ 9223372036854775807) (hn0 : -9223372036854775808 ≤ n) (hn1 : n ≤ 9223372036854775807) :
    Calls Try.prog 37 #[fldv c s p, .int .i64 a, .int .i64 n] w fun e w' => e = .returned (tup (powR c s p a n)) ∧ Below w.heap.size w w' := by
  cases h : ok1 c s p a
  · unfold powR; rw [h]; exact Pow_no c s p a n w hp h
  · unfold powR; rw [h]
    obtain ⟨C, S, P, A, rfl, rfl, rfl, rfl, ha, hv⟩ := ok1_nat h
    simp only [Int.toNat_natCast, if_true]
    by_cases h0 : A = 0
    · subst h0; rw [if_pos (by rfl)]
      by_cases h1 : n < 0
      · rw [if_pos h1]; exact Pow_neg C S P n w hv h1
      · rw [if_neg h1]
        by_cases h2 : n = 0
        · rw [if_pos h2]; exact Pow_zero C S P n w hv h2
        · rw [if_neg h2]; exact Pow_pos C S P n w hv (by omega)
    · rw [if_neg (by omega)]; exact Pow_yes C S P A n w hv ha (by omega) hn0 hn1
theorem Generator_any (c s p : Int) (w : World) (hs : s ≤ 9223372036854775807) (hp : p ≤ 9223372036854775807) :
    Calls Try.prog 23 #[fldv c s p] w fun e w' => e = .returned (tup (genR c s p)) ∧ Below w.heap.size w w' := by
  cases h : vldB c s p
  · unfold genR; rw [h]; exact Generator_no c s p w hp h
  · unfold genR; rw [h]
    obtain ⟨C, S, P, rfl, rfl, rfl, hv⟩ := vld_nat h
    simp only [Int.toNat_natCast, if_true]
    exact Generator_yes C S P w hv
theorem Exp_any (c s p n : Int) (w : World) (hs : s ≤ 9223372036854775807) (hp : p ≤ 9223372036854775807) (hn0 : -9223372036854775808 ≤ n) (hn1 : n ≤ 9223372036854775807) :
    Calls Try.prog 20 #[fldv c s p, .int .i64 n] w fun e w' => e = .returned (tup (expR c s p n)) ∧ Below w.heap.size w w' := by
  cases h : vldB c s p
  · unfold expR; rw [h]; exact Exp_no c s p n w hp h
  · unfold expR; rw [h]
    obtain ⟨C, S, P, rfl, rfl, rfl, hv⟩ := vld_nat h
    simp only [Int.toNat_natCast, if_true]
    exact Exp_yes C S P n w hv hn0 hn1
end Go.Proofs.Ytefnflmabdpnbaa
