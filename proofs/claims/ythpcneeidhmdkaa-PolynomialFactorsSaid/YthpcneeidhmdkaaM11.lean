import Derived.Test.YthpcneeidhmdkaaM10
namespace Go.Proofs.Ythpcneeidhmdkaa
open Go.RowKit
set_option linter.unusedVariables false
/-! division, value, product of factors: the program's functions -/
def RetD (w : World) (L : List Int × List Int × Int) (e : Ending) (w' : World) : Prop := ∃ v u, e = .returned (.tuple #[v, u, .int .i64 L.2.2]) ∧ Ints w' v L.1 ∧ Ints w' u L.2.1 ∧ Below w.heap.size w w'
theorem RetD.mk {w w' : World} {R : List Int × List Int × Int} {v u : Value} {L M : List Int} {err : Int} (h : R = (L, M, err)) (hi : Ints w' v L) (hj : Ints w' u M) (hb : Below w.heap.size w w') : RetD w R (.returned (.tuple #[v, u, .int .i64 err])) w' := by
  subst h; exact ⟨v, u, rfl, hi, hj, hb⟩
def divRes (c s p : Int) (xs ys : List Int) : List Int × List Int × Int :=
  if (pvB c s p xs && pvB c s p ys) = true then (if ys = [] then ([], [], 12) else (zl (divQ s.toNat p.toNat (nl xs) (nl ys)), zl (divRest s.toNat p.toNat (nl xs) (nl ys)), 0)) else ([], [], 1)
theorem zl_nil {l : List Nat} (h : zl l = []) : l = [] := by have := congrArg nl h; rw [nl_zl] at this; exact this
set_option maxHeartbeats 1000000 in
theorem pDivMod_any (c s p : Int) (q r : Sl) (w : World) (hp : p ≤ 9223372036854775807) (hq : q.R w) (hr : r.R w) :
    Calls Try.prog 22 #[fldv c s p, q.v, r.v] w (RetD w (divRes c s p q.xs r.xs)) := by
  obtain ⟨A, n, ca, xs⟩ := q
  obtain ⟨B, m, cb, ys⟩ := r
  have hbx : Below w.heap.size w (w.alloc (fldB c s p)) := (Below.refl _ _).alloc (Nat.le_refl _) _
  have HQ := Lib.hid (hq.below hbx)
  have HR := Lib.hid (hr.below hbx)
  show Calls Try.prog 22 #[fldv c s p, .slice A n ca, .slice B m cb] w (RetD w (divRes c s p xs ys))
  have CB : Hid (CellsAt (w.alloc (fldB c s p)) w.heap.size (fldC c s p)) := CellsAt.new _ _ _ _ rfl
  cases hV : (pvB c s p xs && pvB c s p ys) with
  | false =>
    have HV := Lib.hid hV
    have HF : Hid (divRes c s p xs ys = ([], [], 1)) := by show _ = _; unfold divRes; rw [hV]; rfl
    clear hV hq hr hbx
    go_enter Try.func22, Try.ntmps22
    go_wp2_with (go_at_call 49; refine (pvalid2 c s p A B n ca m cb xs ys _ _ 24 hp (by simp) HQ.out HR.out).mono ?_; rintro e w1 ⟨rfl, hb1⟩; rw [HV.out]; have HB1 := Lib.hid hb1; clear hb1)
    go_ret3
    exact RetD.mk HF.out (Ints.nil_ _) (Ints.nil_ _) (bw1 HB1.out)
  | true =>
    have hV' := hV
    rw [Bool.and_eq_true] at hV'
    obtain ⟨C, S, P, a, rfl, rfl, rfl, rfl, hv, hla, hta, hna⟩ := pvB_nat hV'.1
    obtain ⟨C', S', P', b, e1, e2, e3, rfl, -, hlb, htb, hnb⟩ := pvB_nat hV'.2
    obtain rfl : S = S' := by omega
    have hnn : n = a.length := hq.hn.trans (zl_length a)
    have hmm : m = b.length := hr.hn.trans (zl_length b)
    have HV := Lib.hid hV
    have HVF := Lib.hid hv
    have HLA := Lib.hid hla
    have HLB := Lib.hid hlb
    have HTB := Lib.hid htb
    have HNN := Lib.hid hnn
    have HMM := Lib.hid hmm
    have HNA := Lib.hid hna
    have HNB := Lib.hid hnb
    by_cases hb0 : b = []
    · have HF : Hid (divRes C S P (zl a) (zl b) = ([], [], 12)) := by show _ = _; unfold divRes; rw [if_pos hV, hb0]; rfl
      have hm0 : m = 0 := by rw [hmm, hb0]; rfl
      subst hm0
      clear hV hV' e1 e2 e3 hv hla hlb hta htb hna hnb hnn hmm hb0 hq hr hbx
      go_enter Try.func22, Try.ntmps22
      go_wp2_with (go_at_call 49; refine (pvalid2 C S P A B n ca 0 cb _ _ _ _ 24 hp (by simp) HQ.out HR.out).mono ?_; rintro e w1 ⟨rfl, hb1⟩; rw [HV.out]; have HB1 := Lib.hid hb1; clear hb1)
      go_ret3
      exact RetD.mk HF.out (Ints.nil_ _) (Ints.nil_ _) (bw1 HB1.out)
    · have HF : Hid (divRes C S P (zl a) (zl b) = (zl (divQ S P a b), zl (divRest S P a b), 0)) := by
        show _ = _; unfold divRes; rw [if_pos hV, if_neg (fun e => hb0 (zl_nil e)), nl_zl, nl_zl]; rfl
      have hm1 : 0 < m := by rw [hmm]; exact List.length_pos_iff.2 hb0
      have z1 : ((m : Int) == 0) = false := by rw [beq_eq_false_iff_ne]; omega
      have HB0 := Lib.hid hb0
      clear hV hV' e1 e2 e3 hv hla hlb hta htb hna hnb hnn hmm hb0 hq hr hbx
      go_enter Try.func22, Try.ntmps22
      go_wp2_with (first
          | (go_at_call 49; refine (pvalid2 C S P A B n ca m cb _ _ _ _ 24 hp (by simp) HQ.out HR.out).mono ?_; rintro e w1 ⟨rfl, hb1⟩; rw [HV.out]; have HB1 := Lib.hid hb1; clear hb1; obtain ⟨f0, f1, f2⟩ := fldC_cells (CB.out.below HB1.out))
          | (go_at_call 50; refine (newA_any C S P _ HVF.out).mono ?_; rintro e w2 ⟨be, bl, rfl, ht, hb2⟩; have HT := Lib.hid ht; have HB2 := Lib.hid hb2; clear ht hb2)
          | (go_at_call 65; refine (adivide_n C S P be bl a b n m HNN.out HMM.out A B ca cb _ HVF.out HLA.out HLB.out (by have := HNA.out; omega) HNB.out HTB.out HB0.out HT.out ((HQ.out.below HB1.out).below HB2.out).rd ((HR.out.below HB1.out).below HB2.out).rd).mono ?_; rintro e w3 ⟨vq, vr, rfl, hI, hJ, hb3⟩; have HI := Lib.hid hI; have HJ := Lib.hid hJ; have HB3 := Lib.hid hb3; clear hI hJ hb3))
      go_ret3
      exact RetD.mk HF.out HI.out HJ.out (bw1 (bwStep (bwStep HB1.out HB2.out) HB3.out))
def RetI (w : World) (L : Int × Int) (e : Ending) (w' : World) : Prop := e = .returned (.tuple #[.int .i64 L.1, .int .i64 L.2]) ∧ Below w.heap.size w w'
theorem RetI.mk {w w' : World} {R : Int × Int} {v err : Int} (h : R = (v, err)) (hb : Below w.heap.size w w') : RetI w R (.returned (.tuple #[.int .i64 v, .int .i64 err])) w' := by
  subst h; exact ⟨rfl, hb⟩
def evalRes (c s p : Int) (xs : List Int) (x : Int) : Int × Int :=
  if (pvB c s p xs && isB s x) = true then (((hornN s.toNat p.toNat x.toNat (nl xs) : Nat) : Int), 0) else (0, 1)
theorem inB_one (s x : Int) : inB s [x] = isB s x := by simp [inB, isB]
set_option maxHeartbeats 1000000 in
theorem pEval_any (c s p x : Int) (q : Sl) (w : World) (hp : p ≤ 9223372036854775807) (hq : q.R w) :
    Calls Try.prog 21 #[fldv c s p, q.v, .int .i64 x] w (RetI w (evalRes c s p q.xs x)) := by
  obtain ⟨A, n, ca, xs⟩ := q
  have hbx : Below w.heap.size w (w.alloc (fldB c s p)) := (Below.refl _ _).alloc (Nat.le_refl _) _
  have HQ := Lib.hid (hq.below hbx)
  show Calls Try.prog 21 #[fldv c s p, .slice A n ca, .int .i64 x] w (RetI w (evalRes c s p xs x))
  have CB : Hid (CellsAt (w.alloc (fldB c s p)) w.heap.size (fldC c s p)) := CellsAt.new _ _ _ _ rfl
  cases hV : pvB c s p xs with
  | false =>
    have HV := Lib.hid hV
    have HF : Hid (evalRes c s p xs x = (0, 1)) := by show _ = _; unfold evalRes; rw [hV]; rfl
    clear hV hq hbx
    go_enter Try.func21, Try.ntmps21
    go_wp2_with (go_at_call 49; refine (pvalid1 c s p A n ca xs _ _ 24 hp (by simp) HQ.out).mono ?_; rintro e w1 ⟨rfl, hb1⟩; rw [HV.out]; have HB1 := Lib.hid hb1; clear hb1)
    go_ret2
    exact RetI.mk HF.out (bw1 HB1.out)
  | true =>
    have HV := Lib.hid hV
    cases hI : isB s x with
    | false =>
      have HI : Hid (inB s [x] = false) := (inB_one s x).trans hI
      have HF : Hid (evalRes c s p xs x = (0, 1)) := by show _ = _; unfold evalRes; rw [hV, hI]; rfl
      clear hV hI hq hbx
      go_enter Try.func21, Try.ntmps21
      go_wp2_with (first
        | (go_at_call 49; refine (pvalid1 c s p A n ca xs _ _ 24 hp (by simp) HQ.out).mono ?_; rintro e w1 ⟨rfl, hb1⟩; rw [HV.out]; have HB1 := Lib.hid hb1; clear hb1; obtain ⟨f0, f1, f2⟩ := fldC_cells (CB.out.below HB1.out); have flt := (CB.out.below HB1.out).1)
        | (go_at_call 55; refine (elements_n c s p [x] 1 rfl _ 1 _ (by omega) (RD.one w1 x 3 _ rfl)).mono ?_; rintro e w2 ⟨rfl, hb2⟩; rw [HI.out]; have HB2 : Hid (Below w1.heap.size w1 w2) := bwStep (bwA _ _) hb2; clear hb2))
      go_ret2
      exact RetI.mk HF.out (bw1 (bwStep HB1.out HB2.out))
    | true =>
      have HI : Hid (inB s [x] = true) := (inB_one s x).trans hI
      obtain ⟨C, S, P, a, rfl, rfl, rfl, rfl, hv, hla, hta, hna⟩ := pvB_nat hV
      have hI' := hI
      unfold isB at hI'
      simp only [Bool.and_eq_true, decide_eq_true_eq] at hI'
      obtain ⟨X, rfl⟩ := Int.eq_ofNat_of_zero_le hI'.1
      have hX : X < S := by omega
      have HNN : Hid (n = a.length) := hq.hn.trans (zl_length a)
      have HF : Hid (evalRes C S P (zl a) X = (((hornN S P X a : Nat) : Int), 0)) := by show _ = _; unfold evalRes; rw [hV, hI, nl_zl]; rfl
      have HVF := Lib.hid hv
      have HLA := Lib.hid hla
      have HNA := Lib.hid hna
      clear hV hI hI' hv hla hta hna hq hbx
      go_enter Try.func21, Try.ntmps21
      go_wp2_with (first
        | (go_at_call 49; refine (pvalid1 C S P A n ca (zl a) _ _ 24 hp (by simp) HQ.out).mono ?_; rintro e w1 ⟨rfl, hb1⟩; rw [HV.out]; have HB1 := Lib.hid hb1; clear hb1; obtain ⟨f0, f1, f2⟩ := fldC_cells (CB.out.below HB1.out); have flt := (CB.out.below HB1.out).1)
        | (go_at_call 55; refine (elements_n C S P [(X : Int)] 1 rfl _ 1 _ (by omega) (RD.one w1 X 3 _ rfl)).mono ?_; rintro e w2 ⟨rfl, hb2⟩; rw [HI.out]; have HB2 : Hid (Below w1.heap.size w1 w2) := bwStep (bwA _ _) hb2; clear hb2 f0 f1 f2; obtain ⟨g0, g1, g2⟩ := fldC_cells ((CB.out.below HB1.out).below HB2.out))
        | (go_at_call 50; refine (newA_any C S P _ HVF.out).mono ?_; rintro e w3 ⟨be, bl, rfl, ht, hb3⟩; have HT := Lib.hid ht; have HB3 := Lib.hid hb3; clear ht hb3)
        | (go_at_call 64; refine (value_n C S P be bl X a n HNN.out A ca _ HVF.out hX HLA.out HNA.out HT.out (((HQ.out.below HB1.out).below HB2.out).below HB3.out).rd).mono ?_; rintro e w4 ⟨rfl, hb4⟩; have HB4 := Lib.hid hb4; clear hb4))
      go_ret2
      exact RetI.mk HF.out (bw1 (bwStep (bwStep (bwStep HB1.out HB2.out) HB3.out) HB4.out))
end Go.Proofs.Ythpcneeidhmdkaa
namespace Go.Proofs.Ythpcneeidhmdkaa
open Go.RowKit
set_option linter.unusedVariables false
/-! the product of x - r -/
def fromL (s p : Nat) (roots : List Nat) : Nat → List Nat
  | 0 => [1]
  | k + 1 => extL s p (fromL s p roots k) (roots.getD k 0) 0
theorem fromL_length (s p : Nat) (roots : List Nat) (k : Nat) : (fromL s p roots k).length = k + 1 := by
  induction k with
  | zero => rfl
  | succ k ih => unfold fromL extL; rw [eL_length, ih]
theorem fromL_lt {c s p : Nat} (h : VF c s p) {roots : List Nat} (hr : LtAll s roots) (k : Nat) : LtAll s (fromL s p roots k) := by
  have h2 := h.two_le
  induction k with
  | zero =>
    intro i
    match i with
    | 0 => show 1 < s; omega
    | i + 1 => show ([1] : List Nat).getD (i + 1) 0 < s; simp [List.getD]; omega
  | succ k ih => exact eL_lt h ih (hr _) (by omega) _
def fromRes (c s p : Int) (xs : List Int) : List Int × Int :=
  if (vldB c s p && inB s xs) = true then (if 4096 < xs.length then ([], 4) else (zl (fromL s.toNat p.toNat (nl xs) xs.length), 0)) else ([], 1)
set_option maxHeartbeats 2000000 in
theorem pFromRoots_any (c s p : Int) (q : Sl) (w : World) (hp : p ≤ 9223372036854775807) (hq : q.R w) :
    Calls Try.prog 29 #[fldv c s p, q.v] w (RetL w (fromRes c s p q.xs)) := by
  obtain ⟨A, n, ca, xs⟩ := q
  have hbx : Below w.heap.size w (w.alloc (fldB c s p)) := (Below.refl _ _).alloc (Nat.le_refl _) _
  have HQ := Lib.hid (hq.below hbx)
  have CB : Hid (CellsAt (w.alloc (fldB c s p)) w.heap.size (fldC c s p)) := CellsAt.new _ _ _ _ rfl
  have HC : Hid (∀ w1, Below (w.alloc (fldB c s p)).heap.size (w.alloc (fldB c s p)) w1 → w1.cell? ⟨w.heap.size, 0, none⟩ = some (.int .i64 c) ∧ w1.cell? ⟨w.heap.size, 1, none⟩ = some (.int .i64 s) ∧ w1.cell? ⟨w.heap.size, 2, none⟩ = some (.int .i64 p)) := fun w1 hb => fldC_cells (CB.out.below hb)
  have EQ : Hid (∀ w1, Abv (w.alloc (fldB c s p)) w1 → Calls Try.prog 55 #[fldv c s p, .slice A n ca] w1 fun e w' => e = .returned (.bool (inB s xs)) ∧ Below w1.heap.size w1 w') := fun w1 hb => elements_n c s p xs n hq.hn A ca w1 hq.hm (HQ.out.below hb).rd
  show Calls Try.prog 29 #[fldv c s p, .slice A n ca] w (RetL w (fromRes c s p xs))
  cases hv : vldB c s p with
  | false =>
    have HV := Lib.hid hv
    have HF : Hid (fromRes c s p xs = ([], 1)) := by show _ = _; unfold fromRes; rw [hv]; rfl
    clear hv hq hbx
    go_enter Try.func29, Try.ntmps29
    go_wp2_with (go_at_call 49; refine (pvalid0 c s p _ hp).mono ?_; rintro e w1 ⟨rfl, hb1⟩; rw [HV.out]; have HB1 := Lib.hid hb1; clear hb1)
    go_ret2
    exact RetL.mk HF.out (Ints.nil_ _) (bw1 HB1.out)
  | true =>
    have HV := Lib.hid hv
    cases hx : inB s xs with
    | false =>
      have HX := Lib.hid hx
      have HF : Hid (fromRes c s p xs = ([], 1)) := by show _ = _; unfold fromRes; rw [hv, hx]; rfl
      clear hx hv hq hbx
      go_enter Try.func29, Try.ntmps29
      go_wp2_with (first
        | (go_at_call 49; refine (pvalid0 c s p _ hp).mono ?_; rintro e w1 ⟨rfl, hb1⟩; rw [HV.out]; have HB1 := Lib.hid hb1; clear hb1; obtain ⟨f0, f1, f2⟩ := HC.out _ HB1.out)
        | (go_at_call 55; refine (EQ.out _ HB1.out).mono ?_; rintro e w2 ⟨rfl, hb2⟩; rw [HX.out]; have HB2 := Lib.hid hb2; clear hb2))
      go_ret2
      exact RetL.mk HF.out (Ints.nil_ _) (bw1 (bwStep HB1.out HB2.out))
    | true =>
      have HX := Lib.hid hx
      have hnx : n = xs.length := hq.hn
      by_cases hbig : 4096 < n
      · have HF : Hid (fromRes c s p xs = ([], 4)) := by show _ = _; unfold fromRes; rw [hv, hx, ← hnx]; rw [if_pos hbig]; rfl
        have hn63 : n ≤ 9223372036854775807 := hq.hm
        clear hx hv hq hbx hnx
        go_enter Try.func29, Try.ntmps29
        go_wp2_with (first
          | (go_at_call 49; refine (pvalid0 c s p _ hp).mono ?_; rintro e w1 ⟨rfl, hb1⟩; rw [HV.out]; have HB1 := Lib.hid hb1; clear hb1; obtain ⟨f0, f1, f2⟩ := HC.out _ HB1.out)
          | (go_at_call 55; refine (EQ.out _ HB1.out).mono ?_; rintro e w2 ⟨rfl, hb2⟩; rw [HX.out]; have HB2 := Lib.hid hb2; clear hb2 f0 f1 f2))
        go_ret2
        exact RetL.mk HF.out (Ints.nil_ _) (bw1 (bwStep HB1.out HB2.out))
      · obtain ⟨C, S, P, rfl, rfl, rfl, hvf⟩ := vld_nat hv
        obtain ⟨a, rfl, hla⟩ := inB_nat (by have := hvf.two_le; omega) hx
        have hnn : n = a.length := hnx.trans (zl_length a)
        have HF : Hid (fromRes C S P (zl a) = (zl (fromL S P a n), 0)) := by show _ = _; unfold fromRes; rw [hv, hx, ← hnx]; rw [if_neg hbig, nl_zl]; rfl
        have hn7 : n ≤ 4096 := by omega
        have hd : decide ((4096 : Int) < (n : Int)) = false := by simp; omega
        have HVF := Lib.hid hvf
        have HLA := Lib.hid hla
        have HNN := Lib.hid hnn
        clear hx hv hq hbx hnx hvf hla hnn hbig
        go_enter Try.func29, Try.ntmps29
        go_wp2_with (first
          | (go_at_call 49; refine (pvalid0 C S P _ hp).mono ?_; rintro e w1 ⟨rfl, hb1⟩; rw [HV.out]; have HB1 := Lib.hid hb1; clear hb1; obtain ⟨f0, f1, f2⟩ := HC.out _ HB1.out)
          | (go_at_call 55; refine (EQ.out _ HB1.out).mono ?_; rintro e w2 ⟨rfl, hb2⟩; rw [HX.out]; have HB2 := Lib.hid (bwStep HB1.out hb2); clear hb2 f0 f1 f2; obtain ⟨g0, g1, g2⟩ := HC.out _ HB2.out)
          | (go_at_call 50; refine (newA_any C S P _ HVF.out).mono ?_; rintro e w3 ⟨be, bl, rfl, ht, hb3⟩; have HT := Lib.hid ht; have HB3 := Lib.hid hb3; clear ht hb3 g0 g1 g2))
        clear hd
        have HX0 : Hid (CellsAt ((w3.alloc (arc C S be bl)).alloc (.cells #[.int .i64 1] 3)) w3.heap.size (arcv C S be bl)) := (CellsAt.new _ _ _ _ rfl).alloc _
        have HT0 : Hid (TabAt ((w3.alloc (arc C S be bl)).alloc (.cells #[.int .i64 1] 3)) S P be bl) := (HT.out.alloc _).alloc _
        have HQ0 : Hid (RD ((w3.alloc (arc C S be bl)).alloc (.cells #[.int .i64 1] 3)) A (zl a)) := (((HQ.out.below HB2.out).below HB3.out).rd.alloc _).alloc _
        have HI0 : Hid (Ints ((w3.alloc (arc C S be bl)).alloc (.cells #[.int .i64 1] 3)) (.slice (some ⟨w3.heap.size + 1, 0, none⟩) 1 1) (zl (fromL S P a 0))) := Ints.lit _ [1] 3 _ 1 (by simp) rfl (by omega)
        have HBF : Hid (Below w.heap.size w ((w3.alloc (arc C S be bl)).alloc (.cells #[.int .i64 1] 3))) := bwAlloc (bwAlloc (bw1 (bwStep HB2.out HB3.out)) _) _
        clear HB1 HB2 HB3 HT HQ CB HC EQ HV HX
        generalize (w3.alloc (arc C S be bl)).alloc (.cells #[.int .i64 1] 3) = W0 at *
        generalize w3.heap.size = rb at *
        go_loopw [7, 27] (fun pv iv wr => ∃ k : Nat, k ≤ n ∧ iv = .int .i64 k ∧ Hid (Abv W0 wr) ∧ Hid (Ints wr pv (zl (fromL S P a k)))) (fun _ iv _ => n - (intOf iv).toNat)
        case atStart => exact ⟨0, Nat.zero_le _, rfl, Below.refl _ _, HI0⟩
        case round =>
          obtain ⟨k, hk, rfl, hA, hP⟩ := hrel
          by_cases hlt : k < n
          · obtain ⟨A2, n2, c2, rfl, hn2, -, -, hrd2⟩ := hP.out.n
            obtain ⟨ad, rfl, hadw, hca⟩ := HQ0.out (by rw [zl_length, ← HNN.out]; omega)
            have hx : wr.cell? (ad.add k) = some (.int .i64 ((a.getD k 0 : Nat) : Int)) := by
              rw [hA.out.cell (by rw [block_of_add]; exact hadw), hca k (by rw [zl_length, ← HNN.out]; exact hlt), zl_getD]
            have HX1 : Hid (a.getD k 0 < S) := HLA.out k
            have HST : Hid (fromL S P a (k + 1) = extL S P (fromL S P a k) (a.getD k 0) 0) := rfl
            generalize a.getD k 0 = x1 at *
            obtain ⟨r0, r1, r2, r3⟩ := arcv_cells (HX0.out.below hA.out)
            have HN2 := Lib.hid hn2
            have HRD2 := Lib.hid hrd2
            have HL2 : Hid ((fromL S P a k).length ≤ 8193) := by show _ ≤ _; rw [fromL_length]; omega
            have HLT : Hid (LtAll S (fromL S P a k)) := fromL_lt HVF.out HLA.out k
            have HS2 : Hid (0 < S) := by have := HVF.out.two_le; show _ < _; omega
            clear hn2 hrd2 hca
            go_wp2_with (go_at_call 58; refine (aextend_n C S P be bl x1 0 (fromL S P a k) n2 HN2.out A2 c2 _ HVF.out HLT.out HX1.out HS2.out HL2.out (HT0.out.below hA.out) HRD2.out).mono ?_; rintro e w7 ⟨v7, rfl, hI7, hb7⟩; have HI7 := Lib.hid hI7; have HB7 := Lib.hid hb7; clear hI7 hb7)
            exact ⟨⟨k + 1, by omega, by go_num, bwStep hA.out HB7.out, by rw [HST.out]; exact HI7.out⟩, by simp [intOf]; omega⟩
          · obtain rfl : k = n := by omega
            go_wp2
            go_ret2
            exact RetL.mk HF.out hP.out (bwStep HBF.out hA.out)
end Go.Proofs.Ythpcneeidhmdkaa
namespace Go.Proofs.Ythpcneeidhmdkaa
open Go.RowKit
set_option linter.unusedVariables false
/-! as Tail, for a region whose first operation is worldless and is waited for by the tail alone -/
section
variable {P : Program} {ops : Array Oper} {md : Region.Mode} {S : World → Prop}
def sink1B (md : Region.Mode) (ops : Array Oper) (n : Nat) : Bool :=
  (List.range n).all fun i => decide (i = 0) || (List.range (n + 1)).any fun j => decide (i < j) && Region.waitsFor md ops j i
theorem tail_waits1 {n : Nat} {listed : Array Bool} (hs : sink1B md ops n = true) (hc : Region.chainB md ops n = true) (hn : n < ops.size) (inv : HeadInv md ops n listed) :
    ∀ (d i : Nat), n - i = d → 1 ≤ i → i < n → listed.getD i true = false → ∀ t, n ≤ t → t ∉ Region.ready md ops listed := by
  intro d
  induction d using Nat.strongRecOn with
  | _ d ih =>
    intro i hd h1i hi hun t ht hr
    obtain ⟨_, ot, hot, hall⟩ := mem_ready.1 hr
    have htlt : t < ops.size := (Array.getElem?_eq_some_iff.1 hot).1
    by_cases htn : t = n
    · subst htn
      have h1 := List.all_eq_true.1 hs i (List.mem_range.2 hi)
      simp only [Bool.or_eq_true, decide_eq_true_eq] at h1
      obtain ⟨j, hj, hj2⟩ := List.any_eq_true.1 (h1.resolve_left (by omega))
      simp only [Bool.and_eq_true, decide_eq_true_eq] at hj2
      obtain ⟨oj, hoj, e, he, hb, hon⟩ := Region.waitsFor_spec hj2.2
      have hjle : j ≤ t := by have := List.mem_range.1 hj; omega
      by_cases hjt : j = t
      · subst hjt
        have : oj = ot := Option.some.inj (hoj.symm.trans hot)
        subst this
        have h2 := hall e he hb
        rw [hon, getD_both hun] at h2
        cases h2
      · cases hl : listed.getD j false with
        | true =>
          have h2 := inv.closed j oj hoj hl e he hb
          rw [hon, getD_both hun] at h2
          cases h2
        | false =>
          have hjs : j < listed.size := by rw [inv.size]; omega
          exact ih (t - j) (by omega) j rfl (by omega) (by omega) (getD_in hjs hl) t (Nat.le_refl _) hr
    · have h1 := List.all_eq_true.1 hc t (List.mem_range.2 htlt)
      simp only [Bool.or_eq_true, decide_eq_true_eq] at h1
      rcases h1 with h1 | h1
      · omega
      · obtain ⟨o', ho', e, he, hb, hon⟩ := Region.waitsFor_spec h1
        have : o' = ot := Option.some.inj (ho'.symm.trans hot)
        subst this
        have h2 := hall e he hb
        rw [hon, getD_both (inv.tail (t - 1) (by omega) (by omega))] at h2
        cases h2
theorem wpAnyLS_first1 {n i : Nat} {oi : Oper} {v : Value} {L : Array Bool → Act → Prop} (hi : ops[i]? = some oi) (hsel : ∀ (j : Nat) (o : Oper) cs b, ops[j]? = some o → o.op ≠ .select cs b)
    (hs : sink1B md ops n = true) (hc : Region.chainB md ops n = true) (hn : n < ops.size) (h1i : 1 ≤ i) (hin : i < n)
    (hdone : ∀ listed a, L listed a → ∀ j ∈ Region.ready md ops listed, n ≤ j) :
    ∀ (f : Nat) (listed : Array Bool) (a : Act), HeadInv md ops n listed →
      (∀ j oj, ops[j]? = some oj → j ≠ i → listed.getD j true = false → (∀ e ∈ oj.after, Region.binds md e = true → e.on ≠ i) → oi.apart ops oj = true) →
      i ∈ Region.ready md ops listed → YieldsS P ops S oi v a →
      wpAnyLS P md ops S n L f (listed.setIfInBounds i true) (a.put oi.dst v) → wpAnyLS P md ops S n L (f + 1) listed a := by
  have st : ∀ (a : Act) (K : Act → Prop), YieldsS P ops S oi v a → K (a.put oi.dst v) → stOpS P ops S i K a := fun a K hy hK o ho => by
    obtain rfl : o = oi := Option.some.inj (ho.symm.trans hi)
    exact ⟨v, hy, hK⟩
  intro f
  induction f with
  | zero =>
    intro listed a inv _ hr hy H
    have hun := (mem_ready.1 hr).1
    refine ⟨fun h => (by rw [h] at hr; cases hr), fun j hj => ?_⟩
    have hjn : j < n := by
      rcases Nat.lt_or_ge j n with h | h
      · exact h
      · exact absurd hj (tail_waits1 hs hc hn inv _ i rfl h1i hin hun j h)
    refine ⟨hjn, ?_⟩
    by_cases hji : j = i
    · subst hji; exact st _ _ hy H
    · have := hdone _ _ H j (ready_mono hj hji)
      omega
  | succ f ih =>
    intro listed a inv hfree hr hy H
    have hun := (mem_ready.1 hr).1
    refine ⟨fun h => (by rw [h] at hr; cases hr), fun j hj => ?_⟩
    have hjn : j < n := by
      rcases Nat.lt_or_ge j n with h | h
      · exact h
      · exact absurd hj (tail_waits1 hs hc hn inv _ i rfl h1i hin hun j h)
    refine ⟨hjn, ?_⟩
    by_cases hji : j = i
    · subst hji; exact st _ _ hy H
    · have h1 := (H.2 j (ready_mono hj hji)).2
      obtain ⟨hjun, oj, hoj, hall⟩ := mem_ready.1 hj
      have hnot : ∀ e ∈ oj.after, Region.binds md e = true → e.on ≠ i := fun e he hb heq => by
        have h1 := hall e he hb
        rw [heq, getD_both hun] at h1
        cases h1
      have h2 := stOpS_put hoj (hfree j oj hoj hji hjun hnot) (fun cs b => hsel i oi cs b hi) (fun cs b => hsel j oj cs b hoj) hy h1
      have hfree' : ∀ k ok, ops[k]? = some ok → k ≠ i → (listed.setIfInBounds j true).getD k true = false →
          (∀ e ∈ ok.after, Region.binds md e = true → e.on ≠ i) → oi.apart ops ok = true := fun k ok hk hki hun hno => by
        refine hfree k ok hk hki ?_ hno
        by_cases hjk : j = k
        · subst hjk; exact hjun
        · rw [getD_set_ne true hjk] at hun; exact hun
      refine stOpS_mono (fun a' h3 => ih (listed.setIfInBounds j true) a' (inv.set hj hjn) hfree' (ready_mono hr (Ne.symm hji)) h3.1 ?_) h2
      rw [Array.setIfInBounds_comm _ _ hji]
      exact h3.2
theorem wpAnyLS_lex1 {n g : Nat} {Lq : Act → Prop} (hsel : Region.noSelect ops = true) (hs : sink1B md ops n = true) (hc : Region.chainB md ops n = true) (hn : n < ops.size) :
    ∀ (l : List Oper) (k : Nat) (listed : Array Bool) (a : Act), 1 ≤ k → (∀ j, j < l.length → l[j]? = ops[k + j]?) → k + l.length = n → HeadInv md ops n listed →
    Region.lexHead md ops g l.length k listed = true → wpHS P ops S Lq l a →
    wpAnyLS P md ops S n (fun listed' a' => Region.seqB md ops g n listed' = true ∧ Lq a') l.length listed a
  | [], k, listed, a, _, _, hk, _, hB, h => by
    have : k = n := by simpa using hk
    subst this
    exact ⟨by simpa [Region.lexHead] using hB, h⟩
  | o :: l, k, listed, a, h1k, hl, hk, inv, hB, h => by
    have h0 : ops[k]? = some o := by simpa using (hl 0 (by simp)).symm
    simp only [List.length_cons, Region.lexHead, Bool.and_eq_true] at hB
    obtain ⟨⟨hr, hf⟩, hB'⟩ := hB
    have hkn : k < n := by simp only [List.length_cons] at hk; omega
    have hr' : k ∈ Region.ready md ops listed := by simpa using hr
    obtain ⟨v, hy, hK⟩ := h
    exact wpAnyLS_first1 h0 (Region.noSelect_spec hsel) hs hc hn h1k hkn (fun listed' a' hL => seqB_ready hL.1) l.length listed a inv (Region.free_spec h0 hf) hr' hy
      (wpAnyLS_lex1 hsel hs hc hn l (k + 1) _ _ (by omega) (fun j hj => by have := hl (j + 1) (by simp; omega); simpa [Nat.add_assoc, Nat.add_comm 1 j] using this) (by simp only [List.length_cons] at hk; omega) (inv.set hr' hkn) hB' hK)
def lexTail1B (md : Region.Mode) (ops : Array Oper) (n : Nat) : Bool :=
  Region.noSelect ops && decide (1 ≤ n) && decide (n < ops.size) && sink1B md ops n && Region.chainB md ops n && Region.free md ops (Array.replicate ops.size false) 0 && (Region.ready md ops (Array.replicate ops.size false)).contains 0 &&
    Region.lexHead md ops (ops.size - n) (n - 1) 1 ((Array.replicate ops.size false).setIfInBounds 0 true)
theorem wp_region_S1 {id : Nat} {Q : Exit → Act → World → Prop} {a : Act} {w : World} {o0 : Oper} {l : List Oper} {v0 : Value} (n : Nat) (hm : P.follows .mixedOrders = true) (hB : lexTail1B .any (o0 :: l).toArray n = true)
    (hg : o0.guard = none) (hQ : ∀ c a w, Q (.panic c) (a.put o0.dst v0) w → Q (.panic c) a w) (hv : ∀ W, (execOp a.eval o0).run P W = .ok (.value v0) W) (hS : S w.drew)
    (h : wpHS P (o0 :: l).toArray S (fun a' => ∀ W, S W → wpList P (o0 :: l).toArray Q ((o0 :: l).drop n) a' W) (l.take (n - 1)) (a.put o0.dst v0)) : (Code.region id (o0 :: l).toArray true).wp P Q a w := by
  simp only [lexTail1B, Bool.and_eq_true, decide_eq_true_eq] at hB
  obtain ⟨⟨⟨⟨⟨⟨⟨hsel, h1n⟩, hn⟩, hs⟩, hc⟩, hf0⟩, hr0⟩, hlex⟩ := hB
  have hn' : n < (o0 :: l).length := by simpa using hn
  have hnl : n - 1 < l.length := by simp at hn'; omega
  have htl : (l.take (n - 1)).length = n - 1 := by simp; omega
  have hdl : ((o0 :: l).drop n).length = (o0 :: l).toArray.size - n := by simp
  have h00 : (o0 :: l).toArray[0]? = some o0 := rfl
  have hr0' : 0 ∈ Region.ready .any (o0 :: l).toArray (Array.replicate (o0 :: l).toArray.size false) := by simpa using hr0
  have inv00 : HeadInv .any (o0 :: l).toArray n (Array.replicate (o0 :: l).toArray.size false) :=
    ⟨by simp, fun j oj _ hl => (by rw [getD_replicate_false] at hl; cases hl), fun t _ ht => getD_in (by simpa using ht) (getD_replicate_false _ _)⟩
  have inv0 := inv00.set hr0' h1n
  have H := wpAnyLS_lex1 (P := P) (S := S) (md := .any) (g := (o0 :: l).toArray.size - n) hsel hs hc hn (l.take (n - 1)) 1 _ (a.put o0.dst v0) (Nat.le_refl _) (fun j hj => by
    have hj' : j < n - 1 := by rw [htl] at hj; exact hj
    have e : (o0 :: l).toArray[1 + j]? = l[j]? := by rw [Nat.add_comm]; simp
    rw [e]
    simp [hj']) (by rw [htl]; omega) inv0 (by rw [htl]; exact hlex) h
  refine wp_region_any hm ?_
  have hA := wpAny_of_headS (Q' := Q) (g := (o0 :: l).toArray.size - n) (fun listed a' W hSW hL => by
    have := wpAny_of_seq (md := .any) (Q' := Q) ((o0 :: l).drop n) n listed a' W (fun j => by simp [List.getElem?_drop]) (by rw [hdl]; exact hL.1) (hL.2 W hSW)
    rwa [hdl] at this) _ _ _ w.drew hS H
  rw [htl] at hA
  have hsz : (o0 :: l).toArray.size = (n - 1 + ((o0 :: l).toArray.size - n)) + 1 := by omega
  have key := wpAny_first (P := P) (md := .any) (Q := Q) h00 (Region.noSelect_spec hsel) (v := v0) hQ (n - 1 + ((o0 :: l).toArray.size - n)) (Array.replicate (o0 :: l).toArray.size false) a w.drew (Region.free_spec h00 hf0) hr0' (.inl ⟨by simp [Region.wanted, hg], hv⟩) hA
  rw [← hsz] at key
  exact key
end
end Go.Proofs.Ythpcneeidhmdkaa
namespace Go.Proofs.Ythpcneeidhmdkaa
open Go.RowKit
set_option linter.unusedVariables false
/-! the reference: Scale and Add -/
def rgL (f : Nat → Nat) (k : Nat) : List Nat := (List.range k).map f
theorem rgL_succ (f : Nat → Nat) (k : Nat) : rgL f (k + 1) = rgL f k ++ [f k] := by unfold rgL; rw [List.range_succ, List.map_append]; rfl
theorem rgL_length (f : Nat → Nat) (k : Nat) : (rgL f k).length = k := by unfold rgL; simp
def scaleL (s p : Nat) (a : List Nat) (b : Nat) : List Nat := trimL (rgL (fun i => fmulN s p (a.getD i 0) b) a.length)
def scaleRes (c s p : Int) (xs : List Int) (x : Int) : List Int × Int :=
  if (pvB c s p xs && isB s x) = true then (zl (scaleL s.toNat p.toNat (nl xs) x.toNat), 0) else ([], 1)
def addRes (c s p : Int) (xs ys : List Int) : List Int × Int :=
  if (pvB c s p xs && pvB c s p ys) = true then (zl (addL s.toNat p.toNat (nl xs) (nl ys)), 0) else ([], 1)
theorem at_n (l : List Nat) (n : Nat) (hn : n = l.length) (A : Option Addr) (ca : Nat) (k : Nat) (w : World) (ha : RD w A (zl l)) :
    Calls Try.prog 75 #[.slice A n ca, .int .i64 k] w fun e w' => e = .returned (.int .i64 ((l.getD k 0 : Nat) : Int)) ∧ Below w.heap.size w w' := by
  have e : n = (zl l).length := by rw [zl_length]; exact hn
  rw [e, ← zl_getD]
  exact (at_any (zl l) A ca k w ha).mono fun e w' ⟨h1, h2⟩ => ⟨h1, by rw [h2]; exact Below.refl _ _⟩
set_option maxHeartbeats 2000000 in
theorem rScale_any (c s p x : Int) (q : Sl) (w : World) (hs : s ≤ 9223372036854775807) (hp : p ≤ 9223372036854775807) (hq : q.R w) :
    Calls Try.prog 42 #[fldv c s p, q.v, .int .i64 x] w (RetL w (scaleRes c s p q.xs x)) := by
  obtain ⟨A, n, ca, xs⟩ := q
  obtain ⟨i0, hi, hz0, hz1, hz2⟩ := info_parts intInfo
  have hbx : Below w.heap.size w (w.alloc (fldB c s p)) := (Below.refl _ _).alloc (Nat.le_refl _) _
  have HQ := Lib.hid (hq.below hbx)
  have CB : Hid (CellsAt (w.alloc (fldB c s p)) w.heap.size (fldC c s p)) := CellsAt.new _ _ _ _ rfl
  show Calls Try.prog 42 #[fldv c s p, .slice A n ca, .int .i64 x] w (RetL w (scaleRes c s p xs x))
  cases hV : pvB c s p xs with
  | false =>
    have HV := Lib.hid hV
    have HF : Hid (scaleRes c s p xs x = ([], 1)) := by show _ = _; unfold scaleRes; rw [hV]; rfl
    clear hV hq hbx
    go_enter Try.func42, Try.ntmps42
    go_wp2_with (go_at_call 46; refine (rpValid_n c s p A n ca xs _ hs hp HQ.out).mono ?_; rintro e w1 ⟨rfl, hb1⟩; rw [HV.out]; have HB1 := Lib.hid hb1; clear hb1)
    go_ret2
    exact RetL.mk HF.out (Ints.nil_ _) (bw1 HB1.out)
  | true =>
    have HV := Lib.hid hV
    cases hI : isB s x with
    | false =>
      have HI := Lib.hid hI
      have HF : Hid (scaleRes c s p xs x = ([], 1)) := by show _ = _; unfold scaleRes; rw [hV, hI]; rfl
      clear hV hI hq hbx
      go_enter Try.func42, Try.ntmps42
      go_wp2_with (first
        | (go_at_call 46; refine (rpValid_n c s p A n ca xs _ hs hp HQ.out).mono ?_; rintro e w1 ⟨rfl, hb1⟩; rw [HV.out]; have HB1 := Lib.hid hb1; clear hb1; obtain ⟨f0, f1, f2⟩ := fldC_cells (CB.out.below HB1.out))
        | (go_at_call 70; refine (element_any c s p x _).mono ?_; rintro e w2 ⟨rfl, hb2⟩; rw [HI.out]; have HB2 := Lib.hid hb2; clear hb2))
      go_ret2
      exact RetL.mk HF.out (Ints.nil_ _) (bw1 (bwStep HB1.out HB2.out))
    | true =>
      have HI := Lib.hid hI
      obtain ⟨C, S, P, a, rfl, rfl, rfl, rfl, hv, hla, hta, hna⟩ := pvB_nat hV
      have hI' := hI
      unfold isB at hI'
      simp only [Bool.and_eq_true, decide_eq_true_eq] at hI'
      obtain ⟨X, rfl⟩ := Int.eq_ofNat_of_zero_le hI'.1
      have HX : Hid (X < S) := by show _ < _; omega
      have hnn : n = a.length := hq.hn.trans (zl_length a)
      have hn7 : n ≤ 4097 := by omega
      have HF : Hid (scaleRes C S P (zl a) X = (zl (trimL (rgL (fun i => fmulN S P (a.getD i 0) X) n)), 0)) := by
        show _ = _; unfold scaleRes; rw [hV, hI, nl_zl, hnn]; rfl
      have HVF := Lib.hid hv
      have HLA := Lib.hid hla
      have HNN := Lib.hid hnn
      generalize hg : (fun i => fmulN S P (a.getD i 0) X) = f at *
      have HG := Lib.hid hg
      clear hV hI hI' hv hla hta hna hnn hq hbx hg
      go_enter Try.func42, Try.ntmps42
      go_wp2_with (first
        | (go_at_call 46; refine (rpValid_n C S P A n ca _ _ hs hp HQ.out).mono ?_; rintro e w1 ⟨rfl, hb1⟩; rw [HV.out]; have HB1 := Lib.hid hb1; clear hb1; obtain ⟨f0, f1, f2⟩ := fldC_cells (CB.out.below HB1.out))
        | (go_at_call 70; refine (element_any C S P X _).mono ?_; rintro e w2 ⟨rfl, hb2⟩; rw [HI.out]; have HB2 := Lib.hid (bwStep HB1.out hb2); clear hb2 f0 f1 f2))
      go_loopw [8, 9] (fun ov iv wr => ∃ k : Nat, k ≤ n ∧ iv = .int .i64 k ∧ Hid (OwnL w2 wr ov (rgL f k))) (fun _ iv _ => n - (intOf iv).toNat)
      case atStart => exact ⟨0, Nat.zero_le _, rfl, OwnL.start _⟩
      case round =>
        obtain ⟨k, hk, rfl, hO⟩ := hrel
        by_cases hlt : k < n
        · obtain ⟨ad, rfl, hadw, hca⟩ := (HQ.out.below HB2.out).rd (by rw [zl_length, ← HNN.out]; omega)
          have CF : Hid (∀ W, Abv wr W → (W.cell? ⟨w.heap.size, 0, none⟩ = some (.int .i64 C) ∧ W.cell? ⟨w.heap.size, 1, none⟩ = some (.int .i64 S) ∧ W.cell? ⟨w.heap.size, 2, none⟩ = some (.int .i64 P)) ∧ W.cell? (ad.add k) = some (.int .i64 ((a.getD k 0 : Nat) : Int))) := by
            show ∀ W, _
            intro W hW
            have hb0 := bwStep hO.out.B hW
            exact ⟨fldC_cells ((CB.out.below HB2.out).below hb0), by rw [hb0.cell (by rw [block_of_add]; exact hadw), hca k (by rw [zl_length, ← HNN.out]; exact hlt), zl_getD]⟩
          have HX1 : Hid (a.getD k 0 < S) := HLA.out k
          have HST := Lib.hid (rgL_succ f k)
          have HFK : Hid (f k = fmulN S P (a.getD k 0) X) := by show _ = _; rw [← HG.out]
          generalize a.getD k 0 = y at *
          clear hca
          go_wp2
          refine' wp_region_S1 (S := Abv wr) 8 (by kernel_rfl) (by kernel_rfl) rfl (fun _ _ _ h => h) (fun W => ?_) (bwDrew (Below.refl _ _)) ?_
          rotate_left
          · go_simp; rfl
          simp only [List.take_succ_cons, List.take_zero, List.drop_succ_cons, List.drop_zero, Nat.reduceSub, Act.put, List.setIfInBounds_toArray, List.set_cons_zero, List.set_cons_succ]
          repeat
            refine' wpHS_val rfl (fun W hW => ?_) ?_
            rotate_left
            · have hcf := CF.out W hW; go_simp; rfl
            simp only [Act.put, List.setIfInBounds_toArray, List.set_cons_zero, List.set_cons_succ]
          refine' wpHS_call rfl (fun W => ?_) (fun W hW => ?_) ?_
          rotate_left 3
          · go_simp; exact ⟨rfl, rfl⟩
          · exact (rftimes_any C S P y X W HVF.out HX1.out HX.out).mono (fun e W1 h => ⟨h.1, bwStep hW h.2⟩)
          simp only [Act.put, List.setIfInBounds_toArray, List.set_cons_zero, List.set_cons_succ]
          rw [← HFK.out]
          refine wpHS_nil ?_
          intro w4 hb1
          have HB4 := Lib.hid hb1
          clear hb1
          go_wp2_with (at_builtin; refine wpList_append_read rfl _ _ _ rfl w2.heap.size 3 i0 _ Try.underlying24 hi hz0 hz1 hz2 rfl _ (rgL f k).length (zl (rgL f k)) rfl ((ownsRow_below hO.out.O HB4.out).alloc _) (some ⟨w4.heap.size, 0, none⟩) 1 1 [((f k : Nat) : Int)] rfl rfl (RD.one _ _ _ _ rfl) (by rw [rgL_length]; omega) (by have := (bwStep hO.out.B HB4.out).size; simp; omega) ?_; intro v5 w5 hown hg hat; have HP := Lib.hid (hO.out.push HB4.out hown hg); clear hown hg hat)
          exact ⟨⟨k + 1, by omega, by go_num, by rw [HST.out]; exact HP.out⟩, by simp [intOf]; omega⟩
        · obtain rfl : k = n := by omega
          obtain ⟨A2, n2, c2, rfl, hn2, hnc2, -, hrd2⟩ := hO.out.ints.n
          have hn2k : n2 = k := by rw [hn2, rgL_length]
          have HN2 := Lib.hid hn2
          have HRD2 := Lib.hid hrd2
          clear hn2 hrd2
          subst hn2k
          go_wp2_with (go_at_call 47; refine (rTrim_n (rgL f n2) n2 HN2.out A2 c2 _ (by omega) hnc2 HRD2.out).mono ?_; rintro e w7 ⟨v7, rfl, hI7, hb7⟩; have HI7 := Lib.hid hI7; have HB7 := Lib.hid hb7; clear hI7 hb7)
          go_ret2
          exact RetL.mk HF.out HI7.out (bwStep (bwStep (bw1 HB2.out) hO.out.B) HB7.out)
set_option maxHeartbeats 2000000 in
theorem rAdd_any (c s p : Int) (q r : Sl) (w : World) (hs : s ≤ 9223372036854775807) (hp : p ≤ 9223372036854775807) (hq : q.R w) (hr : r.R w) :
    Calls Try.prog 40 #[fldv c s p, q.v, r.v] w (RetL w (addRes c s p q.xs r.xs)) := by
  obtain ⟨A, n, ca, xs⟩ := q
  obtain ⟨B, m, cb, ys⟩ := r
  obtain ⟨i0, hi, hz0, hz1, hz2⟩ := info_parts intInfo
  have hbx : Below w.heap.size w (w.alloc (fldB c s p)) := (Below.refl _ _).alloc (Nat.le_refl _) _
  have HQ := Lib.hid (hq.below hbx)
  have HR := Lib.hid (hr.below hbx)
  show Calls Try.prog 40 #[fldv c s p, .slice A n ca, .slice B m cb] w (RetL w (addRes c s p xs ys))
  have CB : Hid (CellsAt (w.alloc (fldB c s p)) w.heap.size (fldC c s p)) := CellsAt.new _ _ _ _ rfl
  cases hV : (pvB c s p xs && pvB c s p ys) with
  | false =>
    have HF : Hid (addRes c s p xs ys = ([], 1)) := by show _ = _; unfold addRes; rw [hV]; rfl
    rcases pvB_false hV with h1 | ⟨h1, h2⟩
    · have H1 := Lib.hid h1
      clear hV h1 hq hr hbx
      go_enter Try.func40, Try.ntmps40
      go_wp2_with (go_at_call 46; refine (rpValid_n c s p A n ca xs _ hs hp HQ.out).mono ?_; rintro e w1 ⟨rfl, hb1⟩; rw [H1.out]; have HB1 := Lib.hid hb1; clear hb1)
      go_ret2
      exact RetL.mk HF.out (Ints.nil_ _) (bw1 HB1.out)
    · have H1 := Lib.hid h1
      have H2 := Lib.hid h2
      clear hV h1 h2 hq hr hbx
      go_enter Try.func40, Try.ntmps40
      go_wp2_with (first
        | (go_at_call 46; ((with_reducible refine (rpValid_n c s p A n ca xs _ hs hp HQ.out).mono ?_); rintro e w1 ⟨rfl, hb1⟩; rw [H1.out]; have HB1 := Lib.hid hb1; clear hb1; obtain ⟨f0, f1, f2⟩ := fldC_cells (CB.out.below HB1.out)))
        | (go_at_call 46; refine (rpValid_n c s p B m cb ys _ hs hp (HR.out.below HB1.out)).mono ?_; rintro e w2 ⟨rfl, hb2⟩; rw [H2.out]; have HB2 := Lib.hid (bwStep HB1.out hb2); clear hb2 f0 f1 f2))
      go_ret2
      exact RetL.mk HF.out (Ints.nil_ _) (bw1 HB2.out)
  | true =>
    have hV' := hV
    rw [Bool.and_eq_true] at hV'
    obtain ⟨C, S, P, a, rfl, rfl, rfl, rfl, hv, hla, hta, hna⟩ := pvB_nat hV'.1
    obtain ⟨C', S', P', b, e1, e2, e3, rfl, -, hlb, htb, hnb⟩ := pvB_nat hV'.2
    obtain rfl : S = S' := by omega
    have hnn : n = a.length := hq.hn.trans (zl_length a)
    have hmm : m = b.length := hr.hn.trans (zl_length b)
    obtain ⟨M, hM⟩ : ∃ M, M = max n m := ⟨_, rfl⟩
    have HF : Hid (addRes C S P (zl a) (zl b) = (zl (trimL (rgL (fun i => faddN S P (a.getD i 0) (b.getD i 0)) M)), 0)) := by
      show _ = _; unfold addRes; rw [hV, if_pos rfl, nl_zl, nl_zl, hM, hnn, hmm]; rfl
    have hmx : max (n : Int) (m : Int) = (M : Int) := by rw [hM]; omega
    have hM7 : M ≤ 4097 := by omega
    have H1 := Lib.hid hV'.1
    have H2 := Lib.hid hV'.2
    have HVF := Lib.hid hv
    have HLA := Lib.hid hla
    have HLB := Lib.hid hlb
    have HNN := Lib.hid hnn
    have HMM := Lib.hid hmm
    have hn7 : n ≤ 4097 := by omega
    have hm7 : m ≤ 4097 := by omega
    generalize hg : (fun i => faddN S P (a.getD i 0) (b.getD i 0)) = f at *
    have HG := Lib.hid hg
    clear hV hV' e1 e2 e3 hv hla hlb hta htb hna hnb hnn hmm hq hr hbx hM hg
    go_enter Try.func40, Try.ntmps40
    go_wp2_with (first
      | (go_at_call 46; ((with_reducible refine (rpValid_n C S P A n ca _ _ hs hp HQ.out).mono ?_); rintro e w1 ⟨rfl, hb1⟩; rw [H1.out]; have HB1 := Lib.hid hb1; clear hb1; obtain ⟨f0, f1, f2⟩ := fldC_cells (CB.out.below HB1.out)))
      | (go_at_call 46; refine (rpValid_n C S P B m cb _ _ hs hp (HR.out.below HB1.out)).mono ?_; rintro e w2 ⟨rfl, hb2⟩; rw [H2.out]; have HB2 := Lib.hid (bwStep HB1.out hb2); clear hb2 f0 f1 f2))
    go_loopw [8, 9] (fun ov iv wr => ∃ k : Nat, k ≤ M ∧ iv = .int .i64 k ∧ Hid (OwnL w2 wr ov (rgL f k))) (fun _ iv _ => M - (intOf iv).toNat)
    case atStart => exact ⟨0, Nat.zero_le _, rfl, OwnL.start _⟩
    case round =>
      obtain ⟨k, hk, rfl, hO⟩ := hrel
      by_cases hlt : k < M
      · have HST := Lib.hid (rgL_succ f k)
        have HFK : Hid (f k = faddN S P (a.getD k 0) (b.getD k 0)) := by show _ = _; rw [← HG.out]
        have HX1 : Hid (a.getD k 0 < S) := HLA.out k
        have HX2 : Hid (b.getD k 0 < S) := HLB.out k
        have CF : Hid (∀ W, Abv wr W → W.cell? ⟨w.heap.size, 0, none⟩ = some (.int .i64 C) ∧ W.cell? ⟨w.heap.size, 1, none⟩ = some (.int .i64 S) ∧ W.cell? ⟨w.heap.size, 2, none⟩ = some (.int .i64 P)) := fun W hW => fldC_cells (((CB.out.below HB2.out).below hO.out.B).below hW)
        go_wp2
        refine' wp_region_S1 (S := Abv wr) 9 (by kernel_rfl) (by kernel_rfl) rfl (fun _ _ _ h => h) (fun W => ?_) (bwDrew (Below.refl _ _)) ?_
        rotate_left
        · go_simp; rfl
        simp only [List.take_succ_cons, List.take_zero, List.drop_succ_cons, List.drop_zero, Nat.reduceSub, Act.put, List.setIfInBounds_toArray, List.set_cons_zero, List.set_cons_succ]
        repeat
          refine' wpHS_val rfl (fun W hW => ?_) ?_
          rotate_left
          · have hcf := CF.out W hW; go_simp; rfl
          simp only [Act.put, List.setIfInBounds_toArray, List.set_cons_zero, List.set_cons_succ]
        refine' wpHS_call rfl (fun W => ?_) (fun W hW => ?_) ?_
        rotate_left 3
        · go_simp; exact ⟨rfl, rfl⟩
        · exact (at_n a n HNN.out A ca k W (((HQ.out.below HB2.out).below hO.out.B).below hW).rd).mono (fun e W1 h => ⟨h.1, bwStep hW h.2⟩)
        simp only [Act.put, List.setIfInBounds_toArray, List.set_cons_zero, List.set_cons_succ]
        repeat
          refine' wpHS_val rfl (fun W hW => ?_) ?_
          rotate_left
          · have hcf := CF.out W hW; go_simp; rfl
          simp only [Act.put, List.setIfInBounds_toArray, List.set_cons_zero, List.set_cons_succ]
        refine' wpHS_call rfl (fun W => ?_) (fun W hW => ?_) ?_
        rotate_left 3
        · go_simp; exact ⟨rfl, rfl⟩
        · exact (at_n b m HMM.out B cb k W (((HR.out.below HB2.out).below hO.out.B).below hW).rd).mono (fun e W1 h => ⟨h.1, bwStep hW h.2⟩)
        simp only [Act.put, List.setIfInBounds_toArray, List.set_cons_zero, List.set_cons_succ]
        repeat
          refine' wpHS_val rfl (fun W hW => ?_) ?_
          rotate_left
          · have hcf := CF.out W hW; go_simp; rfl
          simp only [Act.put, List.setIfInBounds_toArray, List.set_cons_zero, List.set_cons_succ]
        refine' wpHS_call rfl (fun W => ?_) (fun W hW => ?_) ?_
        rotate_left 3
        · go_simp; exact ⟨rfl, rfl⟩
        · exact (rfplus_any C S P (a.getD k 0) (b.getD k 0) W HVF.out HX1.out HX2.out).mono (fun e W1 h => ⟨h.1, bwStep hW h.2⟩)
        simp only [Act.put, List.setIfInBounds_toArray, List.set_cons_zero, List.set_cons_succ]
        rw [← HFK.out]
        refine wpHS_nil ?_
        intro w4 hb1
        have HB4 := Lib.hid hb1
        clear hb1
        go_wp2_with (at_builtin; refine wpList_append_read rfl _ _ _ rfl w2.heap.size 3 i0 _ Try.underlying24 hi hz0 hz1 hz2 rfl _ (rgL f k).length (zl (rgL f k)) rfl ((ownsRow_below hO.out.O HB4.out).alloc _) (some ⟨w4.heap.size, 0, none⟩) 1 1 [((f k : Nat) : Int)] rfl rfl (RD.one _ _ _ _ rfl) (by rw [rgL_length]; omega) (by have := (bwStep hO.out.B HB4.out).size; simp; omega) ?_; intro v5 w5 hown hg hat; have HP := Lib.hid (hO.out.push HB4.out hown hg); clear hown hg hat)
        exact ⟨⟨k + 1, by omega, by go_num, by rw [HST.out]; exact HP.out⟩, by simp [intOf]; omega⟩
      · obtain rfl : k = M := by omega
        obtain ⟨A2, n2, c2, rfl, hn2, hnc2, -, hrd2⟩ := hO.out.ints.n
        have hn2k : n2 = k := by rw [hn2, rgL_length]
        have HN2 := Lib.hid hn2
        have HRD2 := Lib.hid hrd2
        clear hn2 hrd2
        subst hn2k
        go_wp2_with (go_at_call 47; refine (rTrim_n (rgL f n2) n2 HN2.out A2 c2 _ (by omega) hnc2 HRD2.out).mono ?_; rintro e w7 ⟨v7, rfl, hI7, hb7⟩; have HI7 := Lib.hid hI7; have HB7 := Lib.hid hb7; clear hI7 hb7)
        go_ret2
        exact RetL.mk HF.out HI7.out (bwStep (bwStep (bw1 HB2.out) hO.out.B) HB7.out)
end Go.Proofs.Ythpcneeidhmdkaa
