/- For every input, the law PolynomialDerives of layer 5 (polynomial) answers true and leaves its arguments as they were. No condition. -/
import Derived.Test.YthpcneeidhmdkaaM15
import Derived.Test.YthpcneeidhmdkaaFacts
namespace Go.Proofs.Ythpcneeidhmdkaa.polynomialDerives
open Go.RowKit
set_option linter.unusedVariables false
set_option maxRecDepth 100000 in
set_option maxHeartbeats 4000000 in
theorem law_walk (c s p : Int) (q r : Sl) (w : World) (bc : I64 c) (bs : I64 s) (bp : I64 p) (hq : q.R w) (hr : r.R w) :
    Calls Try.prog 11 #[fldv c s p, q.v, r.v] w fun e w' => e = .returned (.bool true) ∧ Below w.heap.size w w' := by
  obtain ⟨A, n, ca, xs⟩ := q
  obtain ⟨B, m, cb, ys⟩ := r
  have hp := bp.2
  have hbx : Below w.heap.size w (w.alloc (fldB c s p)) := (Below.refl _ _).alloc (Nat.le_refl _) _
  have HQ := Lib.hid (hq.below hbx)
  have HR := Lib.hid (hr.below hbx)
  show Calls Try.prog 11 #[fldv c s p, .slice A n ca, .slice B m cb] w fun e w' => e = .returned (.bool true) ∧ Below w.heap.size w w'
  have CB : Hid (CellsAt (w.alloc (fldB c s p)) w.heap.size (fldC c s p)) := CellsAt.new _ _ _ _ rfl
  clear hq hr hbx bc bs bp
  cases hV : lvB c s p 40 xs && lvB c s p 40 ys with
  | false =>
    have HV := Lib.hid hV
    clear hV
    go_enter Try.func11, Try.ntmps11
    go_wp2_with fail
    refine (lvalid2 c s p 40 40 rfl A B n ca m cb xs ys (w.heap.size + 1) _ 24 (by omega) hp (by simp) HQ.out HR.out).mono ?_
    rintro e w1 ⟨rfl, hb1⟩
    rw [HV.out]
    go_wp2_with fail
    refine (examples_any _).mono ?_
    rintro e w2 ⟨rfl, hb2⟩
    go_wp2_with fail
    go_ret
    exact ⟨rfl, bw1 (bwStep (bwStep (bwA _ _) hb1) hb2)⟩
  | true =>
    have HV := Lib.hid hV
    rw [Bool.and_eq_true] at hV
    obtain ⟨C, S, P, a, rfl, rfl, rfl, rfl, hv, hla, hta, hna⟩ := lvB_nat hV.1
    obtain ⟨C', S', P', b, e1, e2, e3, rfl, -, hlb, htb, hnb⟩ := lvB_nat hV.2
    obtain rfl : S = S' := by omega
    have lda := derL_lt hv a
    have ldb := derL_lt hv b
    have tda := derL_trimmed S P C a
    have tdb := derL_trimmed S P C b
    have nda := derL_len S P C a
    have ndb := derL_len S P C b
    have lm1 := mulL_lt hv (derL S P C a) b
    have lm2 := mulL_lt hv a (derL S P C b)
    have tm1 := mulL_trimmed hv lda hlb tda htb
    have tm2 := mulL_trimmed hv hla ldb hta tdb
    have nm1 := mulL_len S P (derL S P C a) b
    have nm2 := mulL_len S P a (derL S P C b)
    have lm := mulL_lt hv a b
    have tm := mulL_trimmed hv hla hlb hta htb
    have nm := mulL_len S P a b
    have ls := addL_lt hv hla hlb
    have ts := addL_trimmed hv a b
    have ns := addL_length (s := S) (p := P) a b
    have D1 : Hid (derRes C S P (zl a) = (zl (derL S P C a), 0)) := derRes_ok hv hla hta (by omega)
    have D2 : Hid (derRes C S P (zl b) = (zl (derL S P C b), 0)) := derRes_ok hv hlb htb (by omega)
    have A1 : Hid (addRes C S P (zl (derL S P C a)) (zl (derL S P C b)) = (zl (addL S P (derL S P C a) (derL S P C b)), 0)) := addRes_ok hv lda tda (by omega) ldb tdb (by omega)
    have M1 : Hid (mulRes C S P (zl (derL S P C a)) (zl b) = (zl (mulL S P (derL S P C a) b), 0)) := mulRes_ok hv lda tda (by omega) hlb htb (by omega)
    have M2 : Hid (mulRes C S P (zl a) (zl (derL S P C b)) = (zl (mulL S P a (derL S P C b)), 0)) := mulRes_ok hv hla hta (by omega) ldb tdb (by omega)
    have A2 : Hid (addRes C S P (zl (mulL S P (derL S P C a) b)) (zl (mulL S P a (derL S P C b))) = (zl (addL S P (mulL S P (derL S P C a) b) (mulL S P a (derL S P C b))), 0)) := addRes_ok hv lm1 tm1 (by omega) lm2 tm2 (by omega)
    have A3 : Hid (addRes C S P (zl a) (zl b) = (zl (addL S P a b), 0)) := addRes_ok hv hla hta (by omega) hlb htb (by omega)
    have D3 : Hid (derRes C S P (zl (addL S P a b)) = (zl (addL S P (derL S P C a) (derL S P C b)), 0)) := by show _ = _; rw [derRes_ok hv ls ts (by omega), der_add hv hla hlb]
    have M3 : Hid (mulRes C S P (zl a) (zl b) = (zl (mulL S P a b), 0)) := mulRes_ok hv hla hta (by omega) hlb htb (by omega)
    have D4 : Hid (derRes C S P (zl (mulL S P a b)) = (zl (addL S P (mulL S P (derL S P C a) b) (mulL S P a (derL S P C b))), 0)) := by show _ = _; rw [derRes_ok hv lm tm (by omega), der_mul hv hla hlb]
    have D5 : Hid (derRes C S P [1] = ([], 0)) := by
      have l1 : LtAll S [1] := fun i => by
        have := hv.two_le
        match i with
        | 0 => show 1 < S; omega
        | i + 1 => show ([1] : List Nat).getD (i + 1) 0 < S; simp [List.getD]; omega
      have t1 : Trimmed [1] := .inr (by decide)
      exact derRes_ok (a := [1]) hv l1 t1 (by simp)
    generalize derL S P C a = da at *
    generalize derL S P C b = db at *
    generalize addL S P da db = sd at *
    generalize mulL S P da b = m1 at *
    generalize mulL S P a db = m2 at *
    generalize addL S P m1 m2 = sm at *
    generalize addL S P a b = sab at *
    generalize mulL S P a b = mab at *
    clear hV hv hla hta hna hlb htb hnb e1 e2 e3 lda ldb tda tdb nda ndb lm1 lm2 tm1 tm2 nm1 nm2 lm tm nm ls ts ns
    go_enter Try.func11, Try.ntmps11
    go_wp2_with fail
    refine (lvalid2 C S P 40 40 rfl A B n ca m cb (zl a) (zl b) (w.heap.size + 1) _ 24 (by omega) hp (by simp) HQ.out HR.out).mono ?_
    rintro e w1 ⟨rfl, hb1⟩
    rw [HV.out]
    have hbz := bwStep (bwA (w.alloc (fldB C S P)) (.cells #[.slice A n ca, .slice B m cb] 24)) hb1
    have HB1 : Hid (Below w.heap.size w w1) := bw1 hbz
    have HX1 : Hid (CellsAt w1 w.heap.size (fldC C S P)) := CB.out.below hbz
    have HQ1 := Lib.hid (HQ.out.below hbz)
    have HR1 := Lib.hid (HR.out.below hbz)
    have CF : Hid (∀ W, Abv w1 W → (W.cell? ⟨w.heap.size, 0, none⟩ = some (.int .i64 C) ∧ W.cell? ⟨w.heap.size, 1, none⟩ = some (.int .i64 S) ∧ W.cell? ⟨w.heap.size, 2, none⟩ = some (.int .i64 P))) := fun W hW => fldC_cells (HX1.out.below hW)
    have LD : Hid (∀ W, Abv w1 W → ∀ (E : Option Addr) (k ce : Nat) (l L : List Int) (o : Int), derRes C S P l = (L, o) → (⟨E, k, ce, l⟩ : Sl).R W → Calls Try.prog 37 #[fldv C S P, .slice E k ce] W fun e W' => ∃ E' k' c', e = .returned (.slice E' k' c') ∧ (⟨E', k', c', L⟩ : Sl).R W' ∧ Abv w1 W' ∧ Below W.heap.size W W') := by
      show ∀ W, _
      intro W hW E k ce l L o h1 h2
      refine (lderive_any C S P ⟨E, k, ce, l⟩ W hp h2).mono ?_
      rintro e W' ⟨v, rfl, hi, hb⟩
      simp only [h1] at hi
      obtain ⟨E', k', c', rfl, hr⟩ := hi.parts
      exact ⟨E', k', c', rfl, hr, bwStep hW hb, hb⟩
    have LA : Hid (∀ W, Abv w1 W → ∀ (E : Option Addr) (k ce : Nat) (l : List Int) (G : Option Addr) (g cg : Nat) (l' L : List Int) (o : Int), addRes C S P l l' = (L, o) → (⟨E, k, ce, l⟩ : Sl).R W → (⟨G, g, cg, l'⟩ : Sl).R W → Calls Try.prog 36 #[fldv C S P, .slice E k ce, .slice G g cg] W fun e W' => ∃ E' k' c', e = .returned (.slice E' k' c') ∧ (⟨E', k', c', L⟩ : Sl).R W' ∧ Abv w1 W' ∧ Below W.heap.size W W') := by
      show ∀ W, _
      intro W hW E k ce l G g cg l' L o h1 h2 h3
      refine (ladd_any C S P ⟨E, k, ce, l⟩ ⟨G, g, cg, l'⟩ W hp h2 h3).mono ?_
      rintro e W' ⟨v, rfl, hi, hb⟩
      simp only [h1] at hi
      obtain ⟨E', k', c', rfl, hr⟩ := hi.parts
      exact ⟨E', k', c', rfl, hr, bwStep hW hb, hb⟩
    have LM : Hid (∀ W, Abv w1 W → ∀ (E : Option Addr) (k ce : Nat) (l : List Int) (G : Option Addr) (g cg : Nat) (l' L : List Int) (o : Int), mulRes C S P l l' = (L, o) → (⟨E, k, ce, l⟩ : Sl).R W → (⟨G, g, cg, l'⟩ : Sl).R W → Calls Try.prog 27 #[fldv C S P, .slice E k ce, .slice G g cg] W fun e W' => ∃ E' k' c', e = .returned (.slice E' k' c') ∧ (⟨E', k', c', L⟩ : Sl).R W' ∧ Abv w1 W' ∧ Below W.heap.size W W') := by
      show ∀ W, _
      intro W hW E k ce l G g cg l' L o h1 h2 h3
      refine (lmul_any C S P ⟨E, k, ce, l⟩ ⟨G, g, cg, l'⟩ W hp h2 h3).mono ?_
      rintro e W' ⟨v, rfl, hi, hb⟩
      simp only [h1] at hi
      obtain ⟨E', k', c', rfl, hr⟩ := hi.parts
      exact ⟨E', k', c', rfl, hr, bwStep hW hb, hb⟩
    have HD0 : Hid (Abv w1 w1.drew) := bwDrew (Below.refl _ _)
    clear hb1 hbz HQ HR CB HX1
    go_wp2_with fail
    refine wp_region_W (S := Abv w1) [(false, 0), (false, 1), (false, 2), (false, 4), (false, 5), (true, 3), (true, 6), (true, 7), (false, 8)] (by kernel_rfl) (by kernel_rfl) HD0.out ?_
    simp only [attachW, List.getElem?_cons_zero, List.getElem?_cons_succ]
    repeat
      refine' wpHX_val rfl (fun W hW => ?_) ?_
      rotate_left
      · have hcf := CF.out W hW; go_simp; rfl
      simp only [Act.put, List.setIfInBounds_toArray, List.set_cons_zero, List.set_cons_succ]
    refine' wpHX_acall rfl (fun W => ?_) ?_
    rotate_left 2
    · go_simp; exact ⟨rfl, rfl⟩
    refine (LD.out _ HD0.out _ _ _ _ _ _ D1.out (HQ1.out.below HD0.out)).mono ?_
    rintro e w2 ⟨A2', n2, c2, rfl, hr2, hB2, hN2⟩
    have HR2 := Lib.hid hr2
    have HB2 := Lib.hid hB2
    clear hr2 hB2 hN2
    refine ⟨_, rfl, HB2.out, ?_⟩
    simp only [Act.put, List.setIfInBounds_toArray, List.set_cons_zero, List.set_cons_succ]
    refine' wpHX_acall rfl (fun W => ?_) ?_
    rotate_left 2
    · go_simp; exact ⟨rfl, rfl⟩
    refine (LD.out _ HB2.out _ _ _ _ _ _ D2.out (HR1.out.below HB2.out)).mono ?_
    rintro e w3 ⟨A3', n3, c3, rfl, hr3, hB3, hN3⟩
    have HR3 := Lib.hid hr3
    have HB3 := Lib.hid hB3
    have HN3 := Lib.hid hN3
    clear hr3 hB3 hN3
    refine ⟨_, rfl, HB3.out, ?_⟩
    simp only [Act.put, List.setIfInBounds_toArray, List.set_cons_zero, List.set_cons_succ]
    refine' wpHX_acall rfl (fun W => ?_) ?_
    rotate_left 2
    · go_simp; exact ⟨rfl, rfl⟩
    refine (LA.out _ HB3.out _ _ _ _ _ _ _ _ _ _ A1.out (HR2.out.below HN3.out) HR3.out).mono ?_
    rintro e w4 ⟨A4, n4, c4, rfl, hr4, hB4, hN4⟩
    have HR4 := Lib.hid hr4
    have HB4 := Lib.hid hB4
    clear hr4 hB4 hN4
    refine ⟨_, rfl, HB4.out, ?_⟩
    simp only [Act.put, List.setIfInBounds_toArray, List.set_cons_zero, List.set_cons_succ]
    repeat
      refine' wpHX_val rfl (fun W hW => ?_) ?_
      rotate_left
      · have hcf := CF.out W hW; go_simp; rfl
      simp only [Act.put, List.setIfInBounds_toArray, List.set_cons_zero, List.set_cons_succ]
    refine wpHX_nil ?_
    clear HR2 HR3 HN3
    go_wp2_with fail
    have HE0 : Hid (Abv w1 w4.drew) := bwDrew HB4.out
    refine wp_region_W (S := Abv w1) [(false, 0), (false, 1), (false, 2), (false, 3), (false, 5), (false, 7), (false, 8), (false, 9), (false, 10), (true, 4), (true, 6), (true, 11), (true, 12), (true, 13), (false, 14)] (by kernel_rfl) (by kernel_rfl) HE0.out ?_
    simp only [attachW, List.getElem?_cons_zero, List.getElem?_cons_succ]
    repeat
      refine' wpHX_val rfl (fun W hW => ?_) ?_
      rotate_left
      · have hcf := CF.out W hW; go_simp; rfl
      simp only [Act.put, List.setIfInBounds_toArray, List.set_cons_zero, List.set_cons_succ]
    refine' wpHX_acall rfl (fun W => ?_) ?_
    rotate_left 2
    · go_simp; exact ⟨rfl, rfl⟩
    refine (LD.out _ HE0.out _ _ _ _ _ _ D1.out (HQ1.out.below HE0.out)).mono ?_
    rintro e w5 ⟨A5, n5, c5, rfl, hr5, hB5, hN5⟩
    have HR5 := Lib.hid hr5
    have HB5 := Lib.hid hB5
    have HF5 : Hid (Below w4.heap.size w4 w5) := bwStep (bwDrew (Below.refl _ _)) hN5
    clear hr5 hB5 hN5
    refine ⟨_, rfl, HB5.out, ?_⟩
    simp only [Act.put, List.setIfInBounds_toArray, List.set_cons_zero, List.set_cons_succ]
    refine' wpHX_acall rfl (fun W => ?_) ?_
    rotate_left 2
    · go_simp; exact ⟨rfl, rfl⟩
    refine (LM.out _ HB5.out _ _ _ _ _ _ _ _ _ _ M1.out HR5.out (HR1.out.below HB5.out)).mono ?_
    rintro e w6 ⟨A6, n6, c6, rfl, hr6, hB6, hN6⟩
    have HR6 := Lib.hid hr6
    have HB6 := Lib.hid hB6
    have HF6 : Hid (Below w4.heap.size w4 w6) := bwStep HF5.out hN6
    clear hr6 hB6 hN6
    refine ⟨_, rfl, HB6.out, ?_⟩
    simp only [Act.put, List.setIfInBounds_toArray, List.set_cons_zero, List.set_cons_succ]
    refine' wpHX_acall rfl (fun W => ?_) ?_
    rotate_left 2
    · go_simp; exact ⟨rfl, rfl⟩
    refine (LD.out _ HB6.out _ _ _ _ _ _ D2.out (HR1.out.below HB6.out)).mono ?_
    rintro e w7 ⟨A7, n7, c7, rfl, hr7, hB7, hN7⟩
    have HR7 := Lib.hid hr7
    have HB7 := Lib.hid hB7
    have HN7 := Lib.hid hN7
    have HF7 : Hid (Below w4.heap.size w4 w7) := bwStep HF6.out hN7
    clear hr7 hB7 hN7
    refine ⟨_, rfl, HB7.out, ?_⟩
    simp only [Act.put, List.setIfInBounds_toArray, List.set_cons_zero, List.set_cons_succ]
    refine' wpHX_acall rfl (fun W => ?_) ?_
    rotate_left 2
    · go_simp; exact ⟨rfl, rfl⟩
    refine (LM.out _ HB7.out _ _ _ _ _ _ _ _ _ _ M2.out (HQ1.out.below HB7.out) HR7.out).mono ?_
    rintro e w8 ⟨A8, n8, c8, rfl, hr8, hB8, hN8⟩
    have HR8 := Lib.hid hr8
    have HB8 := Lib.hid hB8
    have HN8 := Lib.hid hN8
    have HF8 : Hid (Below w4.heap.size w4 w8) := bwStep HF7.out hN8
    clear hr8 hB8 hN8
    refine ⟨_, rfl, HB8.out, ?_⟩
    simp only [Act.put, List.setIfInBounds_toArray, List.set_cons_zero, List.set_cons_succ]
    refine' wpHX_acall rfl (fun W => ?_) ?_
    rotate_left 2
    · go_simp; exact ⟨rfl, rfl⟩
    refine (LA.out _ HB8.out _ _ _ _ _ _ _ _ _ _ A2.out ((HR6.out.below HN7.out).below HN8.out) HR8.out).mono ?_
    rintro e w9 ⟨A9, n9, c9, rfl, hr9, hB9, hN9⟩
    have HR9 := Lib.hid hr9
    have HB9 := Lib.hid hB9
    have HF9 : Hid (Below w4.heap.size w4 w9) := bwStep HF8.out hN9
    clear hr9 hB9 hN9
    refine ⟨_, rfl, HB9.out, ?_⟩
    simp only [Act.put, List.setIfInBounds_toArray, List.set_cons_zero, List.set_cons_succ]
    repeat
      refine' wpHX_val rfl (fun W hW => ?_) ?_
      rotate_left
      · have hcf := CF.out W hW; go_simp; rfl
      simp only [Act.put, List.setIfInBounds_toArray, List.set_cons_zero, List.set_cons_succ]
    refine wpHX_nil ?_
    have HS9 := Lib.hid (HR4.out.below HF9.out)
    clear HR4 HR5 HR6 HR7 HR8 HN7 HN8 HF5 HF6 HF7 HF8 HF9 HB2 HB3 HB4 HB5 HB6 HB7 HB8 HD0 HE0
    go_wp2_with fail
    have HD0 : Hid (Abv w1 w9.drew) := bwDrew HB9.out
    have HG0 : Hid (Below w9.heap.size w9 w9.drew) := bwDrew (Below.refl _ _)
    refine wp_region_W (S := Abv w1) [(false, 0), (false, 1), (false, 2), (false, 3), (false, 6), (true, 4), (true, 5), (true, 7), (false, 8), (false, 9), (false, 10), (false, 11), (false, 12), (false, 15), (true, 13), (true, 14), (true, 16), (false, 17), (false, 18), (false, 19), (true, 20), (true, 21), (false, 22), (false, 23), (false, 24), (false, 25), (true, 26), (false, 27), (false, 28)] (by kernel_rfl) (by kernel_rfl) HD0.out ?_
    simp only [attachW, List.getElem?_cons_zero, List.getElem?_cons_succ]
    repeat
      refine' wpHX_val rfl (fun W hW => ?_) ?_
      rotate_left
      · have hcf := CF.out W hW; go_simp; rfl
      simp only [Act.put, List.setIfInBounds_toArray, List.set_cons_zero, List.set_cons_succ]
    refine' wpHX_acall rfl (fun W => ?_) ?_
    rotate_left 2
    · go_simp; exact ⟨rfl, rfl⟩
    refine (LA.out _ HD0.out _ _ _ _ _ _ _ _ _ _ A3.out (HQ1.out.below HD0.out) (HR1.out.below HD0.out)).mono ?_
    rintro e w2 ⟨A2', n2, c2, rfl, hr2, hB2, hN2⟩
    have HR2 := Lib.hid hr2
    have HB2 := Lib.hid hB2
    have HG2 : Hid (Below w9.heap.size w9 w2) := bwStep HG0.out hN2
    clear hr2 hB2 hN2
    refine ⟨_, rfl, HB2.out, ?_⟩
    simp only [Act.put, List.setIfInBounds_toArray, List.set_cons_zero, List.set_cons_succ]
    refine' wpHX_acall rfl (fun W => ?_) ?_
    rotate_left 2
    · go_simp; exact ⟨rfl, rfl⟩
    refine (LD.out _ HB2.out _ _ _ _ _ _ D3.out HR2.out).mono ?_
    rintro e w3 ⟨A3', n3, c3, rfl, hr3, hB3, hN3⟩
    have HR3 := Lib.hid hr3
    have HB3 := Lib.hid hB3
    have HG3 : Hid (Below w9.heap.size w9 w3) := bwStep HG2.out hN3
    clear hr3 hB3 hN3
    refine ⟨_, rfl, HB3.out, ?_⟩
    simp only [Act.put, List.setIfInBounds_toArray, List.set_cons_zero, List.set_cons_succ]
    refine' wpHX_acall rfl (fun W => ?_) ?_
    rotate_left 2
    · go_simp; exact ⟨rfl, rfl⟩
    refine (same_v _ _ (.slice A3' n3 c3) (.slice A4 n4 c4) _ HR3.out.ints (HS9.out.below HG3.out).ints).mono ?_
    rintro e w10 ⟨rfl, hb10⟩
    rw [show decide (zl sd = zl sd) = true from by simp]
    have HB10 : Hid (Abv w1 w10) := bwStep HB3.out hb10
    have HG10 : Hid (Below w9.heap.size w9 w10) := bwStep HG3.out hb10
    clear hb10
    refine ⟨_, rfl, HB10.out, ?_⟩
    simp only [Act.put, List.setIfInBounds_toArray, List.set_cons_zero, List.set_cons_succ]
    repeat
      refine' wpHX_val rfl (fun W hW => ?_) ?_
      rotate_left
      · have hcf := CF.out W hW; go_simp; rfl
      simp only [Act.put, List.setIfInBounds_toArray, List.set_cons_zero, List.set_cons_succ]
    repeat
      refine' wpHX_gval rfl (fun W hW => ?_) ?_
      rotate_left
      · have hcf := CF.out W hW; go_simp; rfl
      simp only [Act.put, List.setIfInBounds_toArray, List.set_cons_zero, List.set_cons_succ]
    refine' wpHX_acall rfl (fun W => ?_) ?_
    rotate_left 2
    · go_simp; exact ⟨rfl, rfl⟩
    refine (LM.out _ HB10.out _ _ _ _ _ _ _ _ _ _ M3.out (HQ1.out.below HB10.out) (HR1.out.below HB10.out)).mono ?_
    rintro e w11 ⟨A11, n11, c11, rfl, hr11, hB11, hN11⟩
    have HR11 := Lib.hid hr11
    have HB11 := Lib.hid hB11
    have HG11 : Hid (Below w9.heap.size w9 w11) := bwStep HG10.out hN11
    clear hr11 hB11 hN11
    refine ⟨_, rfl, HB11.out, ?_⟩
    simp only [Act.put, List.setIfInBounds_toArray, List.set_cons_zero, List.set_cons_succ]
    refine' wpHX_acall rfl (fun W => ?_) ?_
    rotate_left 2
    · go_simp; exact ⟨rfl, rfl⟩
    refine (LD.out _ HB11.out _ _ _ _ _ _ D4.out HR11.out).mono ?_
    rintro e w12 ⟨A12, n12, c12, rfl, hr12, hB12, hN12⟩
    have HR12 := Lib.hid hr12
    have HB12 := Lib.hid hB12
    have HG12 : Hid (Below w9.heap.size w9 w12) := bwStep HG11.out hN12
    clear hr12 hB12 hN12
    refine ⟨_, rfl, HB12.out, ?_⟩
    simp only [Act.put, List.setIfInBounds_toArray, List.set_cons_zero, List.set_cons_succ]
    refine' wpHX_acall rfl (fun W => ?_) ?_
    rotate_left 2
    · go_simp; exact ⟨rfl, rfl⟩
    refine (same_v _ _ (.slice A12 n12 c12) (.slice A9 n9 c9) _ HR12.out.ints (HR9.out.below HG12.out).ints).mono ?_
    rintro e w13 ⟨rfl, hb13⟩
    rw [show decide (zl sm = zl sm) = true from by simp]
    have HB13 : Hid (Abv w1 w13) := bwStep HB12.out hb13
    clear hb13
    refine ⟨_, rfl, HB13.out, ?_⟩
    simp only [Act.put, List.setIfInBounds_toArray, List.set_cons_zero, List.set_cons_succ]
    repeat
      refine' wpHX_val rfl (fun W hW => ?_) ?_
      rotate_left
      · have hcf := CF.out W hW; go_simp; rfl
      simp only [Act.put, List.setIfInBounds_toArray, List.set_cons_zero, List.set_cons_succ]
    repeat
      refine' wpHX_gval rfl (fun W hW => ?_) ?_
      rotate_left
      · have hcf := CF.out W hW; go_simp; rfl
      simp only [Act.put, List.setIfInBounds_toArray, List.set_cons_zero, List.set_cons_succ]
    have HB14 : Hid (Abv w1 (w13.alloc (.cells #[.int .i64 1] 3))) := bwAlloc HB13.out _
    refine wpHX_aval (v := .slice (some ⟨w13.heap.size, 0, none⟩) 1 1) (w' := w13.alloc (.cells #[.int .i64 1] 3)) rfl (by go_simp) HB14.out ?_
    simp only [Act.put, List.setIfInBounds_toArray, List.set_cons_zero, List.set_cons_succ]
    refine' wpHX_acall rfl (fun W => ?_) ?_
    rotate_left 2
    · go_simp; exact ⟨rfl, rfl⟩
    refine (LD.out _ HB14.out _ 1 1 _ _ _ D5.out (Sl.lit w13 [1] 3 w13.heap.size 1 rfl rfl (by omega))).mono ?_
    rintro e w15 ⟨A15, n15, c15, rfl, hr15, hB15, hN15⟩
    have hn15 : n15 = 0 := hr15.hn
    subst hn15
    have HB15 := Lib.hid hB15
    clear hr15 hB15 hN15
    refine ⟨_, rfl, HB15.out, ?_⟩
    simp only [Act.put, List.setIfInBounds_toArray, List.set_cons_zero, List.set_cons_succ]
    repeat
      refine' wpHX_gval rfl (fun W hW => ?_) ?_
      rotate_left
      · have hcf := CF.out W hW; go_simp; rfl
      simp only [Act.put, List.setIfInBounds_toArray, List.set_cons_zero, List.set_cons_succ]
    repeat
      refine' wpHX_val rfl (fun W hW => ?_) ?_
      rotate_left
      · have hcf := CF.out W hW; go_simp; rfl
      simp only [Act.put, List.setIfInBounds_toArray, List.set_cons_zero, List.set_cons_succ]
    refine' wpHX_acall rfl (fun W => ?_) ?_
    rotate_left 2
    · go_simp; exact ⟨rfl, rfl⟩
    refine (examples_any _).mono ?_
    rintro e w16 ⟨rfl, hb16⟩
    have HB16 : Hid (Abv w1 w16) := bwStep HB15.out hb16
    clear hb16
    refine ⟨_, rfl, HB16.out, ?_⟩
    simp only [Act.put, List.setIfInBounds_toArray, List.set_cons_zero, List.set_cons_succ]
    repeat
      refine' wpHX_val rfl (fun W hW => ?_) ?_
      rotate_left
      · have hcf := CF.out W hW; go_simp; rfl
      simp only [Act.put, List.setIfInBounds_toArray, List.set_cons_zero, List.set_cons_succ]
    refine wpHX_nil ?_
    go_wp2_with fail
    go_ret
    exact ⟨rfl, bwStep HB1.out HB16.out⟩
end Go.Proofs.Ythpcneeidhmdkaa.polynomialDerives
namespace Go.Proofs.Ythpcneeidhmdkaa.polynomialDerives
open Go.ChangeShapes Go.WideShapes Go.ChangeAt Go.RowKit
set_option linter.unusedVariables false
theorem k0 : Rows.polynomialDerivesRow.wf (OpenSpec.ofChange Rows.polynomialDerivesSpec) = true := by kernel_rfl
theorem k3 : Try.f11.params.all (Try.prog.readableRec ·) = true := by kernel_rfl
theorem k4 : namedTie Try.prog Rows.polynomialDerivesRow.named Rows.polynomialDerivesSpec.vars = true := by kernel_rfl
theorem k5 : (Rows.polynomialDerivesRow.stops == []) = true := by kernel_rfl
theorem k7 : (Rows.polynomialDerivesRow.knobs == []) = true := by kernel_rfl
theorem k9 : (Rows.polynomialDerivesRow.inPlace == Try.prog.inPlace 11) = true := by kernel_rfl
theorem k10 : (Rows.polynomialDerivesRow.unfollowed == Try.prog.unfollowed 11) = true := by kernel_rfl
theorem k11 : (Rows.polynomialDerivesRow.recurses == Try.prog.recurses 11) = true := by kernel_rfl
theorem k12 : (Rows.polynomialDerivesRow.named == Try.prog.varsNamed 11) = true := by kernel_rfl
theorem k13 : (Rows.polynomialDerivesRow.maps == (Try.f11.params.toList ++ Rows.polynomialDerivesSpec.plain.varTypes Try.prog).any (Try.prog.mapsRec ·)) = true := by kernel_rfl
theorem k14 : (Rows.polynomialDerivesRow.ifaces == (Try.f11.params.toList ++ Rows.polynomialDerivesSpec.plain.varTypes Try.prog).any (Try.prog.ifacesRec ·)) = true := by kernel_rfl
theorem k15 : (Rows.polynomialDerivesRow.mapsOut == Try.prog.mapsAmong Try.f11.resultTypes.toList) = true := by kernel_rfl
theorem k16 : (Rows.polynomialDerivesRow.loops == (Try.f11.params.toList ++ Rows.polynomialDerivesSpec.plain.varTypes Try.prog).any (Try.prog.loopsFrom ·)) = true := by kernel_rfl
theorem k17 : (Rows.polynomialDerivesRow.wideKeys == (Try.f11.params.toList ++ Rows.polynomialDerivesSpec.plain.varTypes Try.prog ++ Try.f11.resultTypes.toList).any (Try.prog.wideKeysFrom ·)) = true := by kernel_rfl
theorem k18 : Rows.polynomialDerivesSpec.vars.all (Try.prog.varReadable ·) = true := by kernel_rfl
theorem k19 : Try.f11.resultTypes.all (fun t => Try.prog.readableRec t && decide (t < Try.prog.types.size)) = true := by kernel_rfl
theorem k20 : (Rows.polynomialDerivesRow.ifacesOut == Try.f11.resultTypes.toList.any (Try.prog.ifacesRec ·)) = true := by kernel_rfl
theorem k21 : (Rows.polynomialDerivesRow.loopsOut == Try.f11.resultTypes.toList.any (Try.prog.loopsFrom ·)) = true := by kernel_rfl
theorem k22 : (Rows.polynomialDerivesRow.plainKeys == Try.prog.plainKeys) = true := by kernel_rfl
theorem k23 : Rows.polynomialDerivesRow.shortTexts.isNone = true := by kernel_rfl
theorem k26 : (Rows.polynomialDerivesRow.lifted == Try.prog.liftsFinal) = true := by kernel_rfl
theorem k27 : (Try.prog.make == some Rows.polynomialDerivesRow.make) = true := by kernel_rfl
theorem k28 : (Rows.polynomialDerivesRow.kinds == (if Rows.polynomialDerivesRow.domain.isEmpty then [] else Try.f11.params.toList.map fun t => match Try.prog.underlying t with | some (.int k) => some k | _ => none)) = true := by kernel_rfl
theorem k29 : (Rows.polynomialDerivesRow.pinned == Rows.polynomialDerivesRow.pinnedBy) = true := by kernel_rfl
theorem k30 : (Rows.polynomialDerivesRow.veiled == (Try.f11.params.toList ++ Rows.polynomialDerivesSpec.plain.varTypes Try.prog ++ Try.f11.resultTypes.toList).any (Try.prog.veiledRec ·)) = true := by kernel_rfl
theorem k31 : Rows.polynomialDerivesRow.veiledFits Try.prog Try.f11.params.toList (Try.f11.params.toList ++ Rows.polynomialDerivesSpec.plain.varTypes Try.prog ++ Try.f11.resultTypes.toList) = true := by kernel_rfl
theorem closedK : joinedFacts Try.prog 11 Try.f11 Rows.polynomialDerivesSpec Rows.polynomialDerivesRow = true := and_tt (and_tt (and_tt (and_tt (and_tt (and_tt (and_tt (and_tt (and_tt (and_tt (and_tt (and_tt (and_tt (and_tt (and_tt (and_tt (and_tt (and_tt (and_tt (and_tt (and_tt (and_tt (and_tt (and_tt (and_tt (and_tt (and_tt (and_tt (and_tt (and_tt (and_tt k0 fp_laid) fp_mapsRowed) k3) k4) k5) fp_stops) k7) fp_stopKnobs) k9) k10) k11) k12) k13) k14) k15) k16) k17) k18) k19) k20) k21) k22) k23) fp_stopsHeard) fp_mayEnter) k26) k27) k28) k29) k30) k31

theorem ownK : ownKnob Try.prog.godebug = none := by kernel_rfl
theorem laidK : laidOutB Try.prog = true := by kernel_rfl
set_option maxRecDepth 100000 in
theorem lifted (os : Os) (started : os.Started) (H : Type) (enc : TypeId × Value → H) :
    ReturnsInHanded {} Try.checked os 11 .any (Rows.polynomialDerivesSpec.pre6 enc Try.prog Try.f11 Rows.polynomialDerivesRow.domain false) (Rows.polynomialDerivesSpec.post enc Try.prog Try.f11 false true false false) := by
  refine returnsInHanded_of_change (C := Try.checked) ownK started (by kernel_rfl) Try.func11
    (ChangeSpec.witness6 (enc := enc) (C := Try.checked) false ⟨#[], #[.agg #[.int .i64 0, .int .i64 0, .int .i64 0], .slice none 0 0, .slice none 0 0], []⟩ 12 (by kernel_rfl) (by kernel_rfl) (by kernel_rfl) (by kernel_rfl)) ?_
  intro W base args ds gs before hval0 hW hcnd _
  have hval : ∀ (j : Nat) t v, Try.f11.params[j]? = some t → args[j]? = some v → Value.okWide Try.prog W .any base t v := hval0
  have hW' := hW
  obtain ⟨p, q, hA0, hV, rfl, hfz, hnd⟩ := hW
  have hA : DataW.TrodAll enc Try.prog W 0 (fun _ => true) true Try.f11.params.toList args.toList ds p := hA0
  rw [Try.params11] at hA hval
  obtain ⟨v0, vs0, d0, ds0, p0, q0, hargs, rfl, rfl, h0, r0⟩ := trodAll_cons hA
  obtain ⟨v1, vs1, d1, ds1, p1, q1, rfl, rfl, rfl, h1, r1⟩ := trodAll_cons r0
  obtain ⟨v2, vs2, d2, ds2, p2, q2, rfl, rfl, rfl, h2, r2⟩ := trodAll_cons r1
  obtain ⟨rfl, rfl, rfl⟩ := trodAll_nil r2
  obtain rfl : args = #[v0, v1, v2] := by cases args; simp_all
  obtain ⟨rfl, rfl⟩ := trodVars_none hV
  have hrd : ∀ t ∈ Try.f11.params.toList, Try.prog.readableRec t = true ∧ t < Try.prog.types.size := by
    rw [Try.params11]
    intro t ht
    simp only [List.mem_cons, List.not_mem_nil, or_false] at ht
    rcases ht with rfl | rfl | rfl <;> exact ⟨by kernel_rfl, of_decide_eq_true (by kernel_rfl)⟩
  obtain ⟨c, s, p, rfl, bc, bs, bp⟩ := open_fld (hval 0 23 v0 rfl rfl) h0
  obtain ⟨q, rfl, hq⟩ := open_sl (hval 1 24 v1 rfl rfl) h1
  obtain ⟨r, rfl, hr⟩ := open_sl (hval 2 24 v2 rfl rfl) h2
  refine (law_walk c s p q r W bc bs bp hq hr).mono fun e W' ⟨he, hb⟩ => ?_
  subst he
  exact ⟨_, rfl, law_post laidK Try.underlying4 rfl rfl hrd hW' rfl hb⟩
theorem over : Rows.polynomialDerivesRow.holds Try.pinned (OpenSpec.ofChange Rows.polynomialDerivesSpec) :=
  OpenClaim.holds_of_wide 11 Try.f11 rfl rfl rfl rfl rfl rfl rfl ⟨rfl, rfl, rfl, rfl, rfl⟩ rfl rfl rfl rfl rfl (by kernel_rfl) Try.func11 closedK
    (of_decide_eq_true (by kernel_rfl)) (by unfold Func.isWrapper; first | (rw [if_pos (by decide +kernel)]; kernel_rfl) | (rw [if_neg (by decide +kernel)]; exact ⟨rfl, rfl⟩))
    (fun os started H enc _ => lifted os started H enc)
/-- THE STATEMENT -/
theorem proved : Rows.PolynomialDerivesSaid := over
end Go.Proofs.Ythpcneeidhmdkaa.polynomialDerives
