/- For every input, the law PolynomialRing of layer 5 (polynomial) answers true and leaves its arguments as they were. No condition. -/
import Derived.Test.YthpcneeidhmdkaaM16
import Derived.Test.YthpcneeidhmdkaaFacts
namespace Go.Proofs.Ythpcneeidhmdkaa.polynomialRing
open Go.RowKit
set_option linter.unusedVariables false
set_option linter.unusedSimpArgs false
set_option maxRecDepth 100000 in
set_option maxHeartbeats 16000000 in
theorem law_walk (c s p : Int) (q r t : Sl) (x : Int) (w : World) (bc : I64 c) (bs : I64 s) (bp : I64 p) (hq : q.R w) (hr : r.R w) (ht : t.R w) (bx : I64 x) :
    Calls Try.prog 12 #[fldv c s p, q.v, r.v, t.v, .int .i64 x] w fun e w' => e = .returned (.bool true) ∧ Below w.heap.size w w' := by
  obtain ⟨A, n, ca, xs⟩ := q
  obtain ⟨B, m, cb, ys⟩ := r
  obtain ⟨D, k, cd, zs⟩ := t
  have hp := bp.2
  have hbx : Below w.heap.size w (w.alloc (fldB c s p)) := (Below.refl _ _).alloc (Nat.le_refl _) _
  have HQ := Lib.hid (hq.below hbx)
  have HR := Lib.hid (hr.below hbx)
  have HU := Lib.hid (ht.below hbx)
  show Calls Try.prog 12 #[fldv c s p, .slice A n ca, .slice B m cb, .slice D k cd, .int .i64 x] w fun e w' => e = .returned (.bool true) ∧ Below w.heap.size w w'
  have CB : Hid (CellsAt (w.alloc (fldB c s p)) w.heap.size (fldC c s p)) := CellsAt.new _ _ _ _ rfl
  clear hq hr ht hbx bc bs bp
  cases hV : lvB c s p 40 xs && (lvB c s p 40 ys && lvB c s p 40 zs) with
  | false =>
    have HV := Lib.hid hV
    clear hV
    go_enter Try.func12, Try.ntmps12
    go_wp2_with fail
    refine (lvalid3 c s p 40 40 rfl A B D n ca m cb k cd xs ys zs (w.heap.size + 1) _ 24 (by omega) hp (by simp) HQ.out HR.out HU.out).mono ?_
    rintro e w1 ⟨rfl, hb1⟩
    rw [HV.out]
    go_wp2_with fail
    refine (examples_any _).mono ?_
    rintro e w2 ⟨rfl, hb2⟩
    go_wp2_with fail
    go_ret
    exact ⟨rfl, bw1 (bwStep (bwStep (bwA _ _) hb1) hb2)⟩
  | true =>
    have HV := Lib.hid hV
    rw [Bool.and_eq_true, Bool.and_eq_true] at hV
    obtain ⟨C, S, P, a, rfl, rfl, rfl, rfl, hv, hla, hta, hna⟩ := lvB_nat hV.1
    obtain ⟨C', S', P', b, e1, e2, e3, rfl, -, hlb, htb, hnb⟩ := lvB_nat hV.2.1
    obtain rfl : S = S' := by omega
    obtain ⟨C2, S2, P2, d, e4, e5, e6, rfl, -, hld, htd, hnd⟩ := lvB_nat hV.2.2
    obtain rfl : S = S2 := by omega
    clear hV e1 e2 e3 e4 e5 e6
    by_cases hx0 : x < 0
    · have z1 : decide (x < 0) = true := by simpa using hx0
      clear hv hla hta hna hlb htb hnb hld htd hnd hx0
      go_enter Try.func12, Try.ntmps12
      go_wp2_with fail
      refine (lvalid3 C S P 40 40 rfl A B D n ca m cb k cd (zl a) (zl b) (zl d) (w.heap.size + 1) _ 24 (by omega) hp (by simp) HQ.out HR.out HU.out).mono ?_
      rintro e w1 ⟨rfl, hb1⟩
      rw [HV.out]
      go_wp2_with fail
      refine (examples_any _).mono ?_
      rintro e w2 ⟨rfl, hb2⟩
      go_wp2_with fail
      go_ret
      exact ⟨rfl, bw1 (bwStep (bwStep (bwA _ _) hb1) hb2)⟩
    · obtain ⟨X, rfl⟩ := Int.eq_ofNat_of_zero_le (show 0 ≤ x by omega)
      by_cases hxs : S ≤ X
      · have z1 : decide (S ≤ X) = true := by simpa using hxs
        clear hv hla hta hna hlb htb hnb hld htd hnd hx0
        go_enter Try.func12, Try.ntmps12
        go_wp2_with fail
        refine (lvalid3 C S P 40 40 rfl A B D n ca m cb k cd (zl a) (zl b) (zl d) (w.heap.size + 1) _ 24 (by omega) hp (by simp) HQ.out HR.out HU.out).mono ?_
        rintro e w1 ⟨rfl, hb1⟩
        rw [HV.out]
        obtain ⟨f0, f1, f2⟩ := fldC_cells (CB.out.below (bwStep (bwA (w.alloc (fldB C S P)) (.cells #[.slice A n ca, .slice B m cb, .slice D k cd] 24)) hb1))
        go_wp2_with fail
        refine (examples_any _).mono ?_
        rintro e w2 ⟨rfl, hb2⟩
        go_wp2_with fail
        go_ret
        exact ⟨rfl, bw1 (bwStep (bwStep (bwA _ _) hb1) hb2)⟩
      · have hX : X < S := by omega
        have z1 : decide (S ≤ X) = false := by simp; omega
        have lm := mulL_lt hv a b
        have tm := mulL_trimmed hv hla hlb hta htb
        have nm := mulL_len S P a b
        have lbd := mulL_lt hv b d
        have tbd := mulL_trimmed hv hlb hld htb htd
        have nbd := mulL_len S P b d
        have lad := mulL_lt hv a d
        have tad := mulL_trimmed hv hla hld hta htd
        have nad := mulL_len S P a d
        have ls := addL_lt hv hla hlb
        have ts := addL_trimmed hv a b
        have ns := addL_length (s := S) (p := P) a b
        have lsd := addL_lt hv hlb hld
        have tsd := addL_trimmed hv b d
        have nsd := addL_length (s := S) (p := P) b d
        have Mab : Hid (mulRes C S P (zl a) (zl b) = (zl (mulL S P a b), 0)) := mulRes_ok hv hla hta (by omega) hlb htb (by omega)
        have Mba : Hid (mulRes C S P (zl b) (zl a) = (zl (mulL S P a b), 0)) := by show _ = _; rw [mulRes_ok hv hlb htb (by omega) hla hta (by omega), mulL_comm hv hlb hla htb hta]
        have Aab : Hid (addRes C S P (zl a) (zl b) = (zl (addL S P a b), 0)) := addRes_ok hv hla hta (by omega) hlb htb (by omega)
        have Aba : Hid (addRes C S P (zl b) (zl a) = (zl (addL S P a b), 0)) := by show _ = _; rw [addRes_ok hv hlb htb (by omega) hla hta (by omega), addL_comm hv hlb hla]
        have Asd : Hid (addRes C S P (zl (addL S P a b)) (zl d) = (zl (addL S P a (addL S P b d)), 0)) := by show _ = _; rw [addRes_ok hv ls ts (by omega) hld htd (by omega), addL_assoc hv hla hlb hld]
        have Abd : Hid (addRes C S P (zl b) (zl d) = (zl (addL S P b d), 0)) := addRes_ok hv hlb htb (by omega) hld htd (by omega)
        have Aas : Hid (addRes C S P (zl a) (zl (addL S P b d)) = (zl (addL S P a (addL S P b d)), 0)) := addRes_ok hv hla hta (by omega) lsd tsd (by omega)
        have Mmd : Hid (mulRes C S P (zl (mulL S P a b)) (zl d) = (zl (mulL S P a (mulL S P b d)), 0)) := by show _ = _; rw [mulRes_ok hv lm tm (by omega) hld htd (by omega), mulL_assoc hv hla hlb hld hta htb htd]
        have Mbd : Hid (mulRes C S P (zl b) (zl d) = (zl (mulL S P b d), 0)) := mulRes_ok hv hlb htb (by omega) hld htd (by omega)
        have Mam : Hid (mulRes C S P (zl a) (zl (mulL S P b d)) = (zl (mulL S P a (mulL S P b d)), 0)) := mulRes_ok hv hla hta (by omega) lbd tbd (by omega)
        have Mas : Hid (mulRes C S P (zl a) (zl (addL S P b d)) = (zl (addL S P (mulL S P a b) (mulL S P a d)), 0)) := by show _ = _; rw [mulRes_ok hv hla hta (by omega) lsd tsd (by omega), mulL_addL hv hla hlb hld hta htb htd]
        have Mad : Hid (mulRes C S P (zl a) (zl d) = (zl (mulL S P a d), 0)) := mulRes_ok hv hla hta (by omega) hld htd (by omega)
        have Amm : Hid (addRes C S P (zl (mulL S P a b)) (zl (mulL S P a d)) = (zl (addL S P (mulL S P a b) (mulL S P a d)), 0)) := addRes_ok hv lm tm (by omega) lad tad (by omega)
        have Ma1 : Hid (mulRes C S P (zl a) [1] = (zl a, 0)) := by
          show _ = _
          rw [show ([1] : List Int) = zl [1] from rfl, mulRes_ok hv hla hta (by omega) (lt_one hv) trimmed_one (by simp), mulL_one hv hla hta]
        have Aa0 : Hid (addRes C S P (zl a) [] = (zl a, 0)) := by
          show _ = _
          rw [show ([] : List Int) = zl [] from rfl, addRes_ok hv hla hta (by omega) (lt_nil hv) (.inl rfl) (by simp), addL_nil hv hla hta]
        have HVA : Hid (hornN S P X a < S) := hornN_lt hv X a (ltAll_mem hla)
        have HVB : Hid (hornN S P X b < S) := hornN_lt hv X b (ltAll_mem hlb)
        have Ea : Hid (evalRes C S P (zl a) X = (((hornN S P X a : Nat) : Int), 0)) := evalRes_ok hv hla hta (by omega) hX
        have Eb : Hid (evalRes C S P (zl b) X = (((hornN S P X b : Nat) : Int), 0)) := evalRes_ok hv hlb htb (by omega) hX
        have Es : Hid (evalRes C S P (zl (addL S P a b)) X = (((faddN S P (hornN S P X a) (hornN S P X b) : Nat) : Int), 0)) := by show _ = _; rw [evalRes_ok hv ls ts (by omega) hX, horn_add hv hla hlb hX]
        have Em : Hid (evalRes C S P (zl (mulL S P a b)) X = (((fmulN S P (hornN S P X a) (hornN S P X b) : Nat) : Int), 0)) := by show _ = _; rw [evalRes_ok hv lm tm (by omega) hX, horn_mul hv hla hlb hX]
        have HVF := Lib.hid hv
        obtain ⟨va, hva⟩ : ∃ va, va = hornN S P X a := ⟨_, rfl⟩
        obtain ⟨vb, hvb⟩ : ∃ vb, vb = hornN S P X b := ⟨_, rfl⟩
        rw [← hva] at HVA Ea Es Em
        rw [← hvb] at HVB Eb Es Em
        have Fs : Hid (faddN S P va vb = faddN S P va vb) := rfl
        have Fm : Hid (fmulN S P va vb = fmulN S P va vb) := rfl
        obtain ⟨su, hsu⟩ : ∃ su, su = faddN S P va vb := ⟨_, rfl⟩
        obtain ⟨pr, hpr⟩ : ∃ pr, pr = fmulN S P va vb := ⟨_, rfl⟩
        rw [← hsu] at Es
        rw [← hpr] at Em
        have Gs : Hid (faddN S P va vb = su) := hsu.symm
        have Gm : Hid (fmulN S P va vb = pr) := hpr.symm
        generalize addL S P (mulL S P a b) (mulL S P a d) = x5 at *
        generalize addL S P a (addL S P b d) = x3 at *
        generalize mulL S P a (mulL S P b d) = x4 at *
        generalize addL S P a b = sab at *
        generalize addL S P b d = sbd at *
        generalize mulL S P a b = mab at *
        generalize mulL S P b d = mbd at *
        generalize mulL S P a d = mad at *
        clear hv hla hta hna hlb htb hnb hld htd hnd lm tm nm lbd tbd nbd lad tad nad ls ts ns lsd tsd nsd hva hvb hsu hpr Fs Fm hX hxs hx0
        go_enter Try.func12, Try.ntmps12
        go_wp2_with fail
        refine (lvalid3 C S P 40 40 rfl A B D n ca m cb k cd (zl a) (zl b) (zl d) (w.heap.size + 1) _ 24 (by omega) hp (by simp) HQ.out HR.out HU.out).mono ?_
        rintro e w1 ⟨rfl, hb1⟩
        rw [HV.out]
        have hbz := bwStep (bwA (w.alloc (fldB C S P)) (.cells #[.slice A n ca, .slice B m cb, .slice D k cd] 24)) hb1
        have HB1 : Hid (Below w.heap.size w w1) := bw1 hbz
        have HX1 : Hid (CellsAt w1 w.heap.size (fldC C S P)) := CB.out.below hbz
        have RA := Lib.hid (HQ.out.below hbz)
        have RB := Lib.hid (HR.out.below hbz)
        have RD_ := Lib.hid (HU.out.below hbz)
        have CF : Hid (∀ W, Abv w1 W → (W.cell? ⟨w.heap.size, 0, none⟩ = some (.int .i64 C) ∧ W.cell? ⟨w.heap.size, 1, none⟩ = some (.int .i64 S) ∧ W.cell? ⟨w.heap.size, 2, none⟩ = some (.int .i64 P))) := fun W hW => fldC_cells (HX1.out.below hW)
        clear hb1 hbz HQ HR HU CB HX1
        have G1 : Hid (Abv w1 w1) := Below.refl _ _
        obtain ⟨f0, f1, f2⟩ := CF.out _ G1.out
        go_wp2_with fail
        refine (LM_ C S P w1 hp _ G1.out _ _ _ _ _ _ _ _ _ _ Mab.out (RA.out.below G1.out) (RB.out.below G1.out)).mono ?_
        rintro e w2 ⟨E2, k2, c2, rfl, hr2, hB2, hN2⟩
        have R2 := Lib.hid hr2
        have G2 := Lib.hid hB2
        have N2 := Lib.hid hN2
        clear hr2 hB2 hN2 f0 f1 f2
        go_wp2_with fail
        have G3 : Hid (Abv w1 w2.drew) := bwDrew G2.out
        have N3 : Hid (Below w2.heap.size w2 w2.drew) := bwDrew (Below.refl _ _)
        refine wp_region_W (S := Abv w1) [(false, 0), (false, 1), (false, 2), (false, 4), (false, 5), (false, 6), (true, 3), (true, 7), (true, 8), (false, 9), (false, 10), (false, 11), (false, 12), (false, 13), (false, 14), (true, 15), (true, 16), (false, 17), (false, 18), (false, 19), (false, 20), (false, 21), (false, 22), (false, 23), (false, 25), (false, 27), (false, 28), (false, 29), (false, 30), (false, 31), (true, 24), (true, 26), (true, 32), (true, 33), (true, 34), (false, 35), (false, 36), (false, 37), (false, 38), (false, 39), (false, 40), (false, 42), (false, 43), (false, 44), (false, 45), (false, 46), (true, 41), (true, 47), (true, 48), (true, 49), (false, 50), (false, 51), (false, 52), (false, 53), (false, 54), (false, 55), (false, 56), (false, 57), (false, 60), (false, 61), (false, 62), (false, 63), (false, 64), (true, 58), (true, 59), (true, 65), (true, 66), (true, 67), (false, 68), (false, 69)] (by kernel_rfl) (by kernel_rfl) G3.out ?_
        simp only [attachW, List.getElem?_cons_zero, List.getElem?_cons_succ]
        repeat
          first
          | refine' wpHX_val rfl (fun W hW => ?_) ?_
          | refine' wpHX_gval rfl (fun W hW => ?_) ?_
          rotate_left
          · have hcf := CF.out W hW; go_simp; rfl
          simp only [Act.put, List.setIfInBounds_toArray, List.set_cons_zero, List.set_cons_succ]
        refine' wpHX_acall rfl (fun W => ?_) ?_
        rotate_left 2
        · go_simp; exact ⟨rfl, rfl⟩
        refine (LA_ C S P w1 hp _ G3.out _ _ _ _ _ _ _ _ _ _ Aab.out (RA.out.below G3.out) (RB.out.below G3.out)).mono ?_
        rintro e w4 ⟨E4, k4, c4, rfl, hr4, hB4, hN4⟩
        have R4 := Lib.hid hr4
        have G4 := Lib.hid hB4
        have N4 := Lib.hid hN4
        clear hr4 hB4 hN4
        refine ⟨_, rfl, G4.out, ?_⟩
        simp only [Act.put, List.setIfInBounds_toArray, List.set_cons_zero, List.set_cons_succ]
        repeat
          first
          | refine' wpHX_val rfl (fun W hW => ?_) ?_
          | refine' wpHX_gval rfl (fun W hW => ?_) ?_
          rotate_left
          · have hcf := CF.out W hW; go_simp; rfl
          simp only [Act.put, List.setIfInBounds_toArray, List.set_cons_zero, List.set_cons_succ]
        refine' wpHX_acall rfl (fun W => ?_) ?_
        rotate_left 2
        · go_simp; exact ⟨rfl, rfl⟩
        refine (LA_ C S P w1 hp _ G4.out _ _ _ _ _ _ _ _ _ _ Aba.out (RB.out.below G4.out) (RA.out.below G4.out)).mono ?_
        rintro e w5 ⟨E5, k5, c5, rfl, hr5, hB5, hN5⟩
        have R5 := Lib.hid hr5
        have G5 := Lib.hid hB5
        have N5 := Lib.hid hN5
        clear hr5 hB5 hN5
        refine ⟨_, rfl, G5.out, ?_⟩
        simp only [Act.put, List.setIfInBounds_toArray, List.set_cons_zero, List.set_cons_succ]
        repeat
          first
          | refine' wpHX_val rfl (fun W hW => ?_) ?_
          | refine' wpHX_gval rfl (fun W hW => ?_) ?_
          rotate_left
          · have hcf := CF.out W hW; go_simp; rfl
          simp only [Act.put, List.setIfInBounds_toArray, List.set_cons_zero, List.set_cons_succ]
        refine' wpHX_acall rfl (fun W => ?_) ?_
        rotate_left 2
        · go_simp; exact ⟨rfl, rfl⟩
        refine (LS_ w1 _ G5.out _ _ _ _ _ _ _ (R4.out.below N5.out) R5.out).mono ?_
        rintro e w6 ⟨rfl, hB6, hN6⟩
        have G6 := Lib.hid hB6
        have N6 := Lib.hid hN6
        clear hB6 hN6
        refine ⟨_, rfl, G6.out, ?_⟩
        simp only [Act.put, List.setIfInBounds_toArray, List.set_cons_zero, List.set_cons_succ]
        repeat
          first
          | refine' wpHX_val rfl (fun W hW => ?_) ?_
          | refine' wpHX_gval rfl (fun W hW => ?_) ?_
          rotate_left
          · have hcf := CF.out W hW; go_simp; rfl
          simp only [Act.put, List.setIfInBounds_toArray, List.set_cons_zero, List.set_cons_succ]
        refine' wpHX_acall rfl (fun W => ?_) ?_
        rotate_left 2
        · go_simp; exact ⟨rfl, rfl⟩
        refine (LM_ C S P w1 hp _ G6.out _ _ _ _ _ _ _ _ _ _ Mba.out (RB.out.below G6.out) (RA.out.below G6.out)).mono ?_
        rintro e w7 ⟨E7, k7, c7, rfl, hr7, hB7, hN7⟩
        have R7 := Lib.hid hr7
        have G7 := Lib.hid hB7
        have N7 := Lib.hid hN7
        clear hr7 hB7 hN7
        refine ⟨_, rfl, G7.out, ?_⟩
        simp only [Act.put, List.setIfInBounds_toArray, List.set_cons_zero, List.set_cons_succ]
        repeat
          first
          | refine' wpHX_val rfl (fun W hW => ?_) ?_
          | refine' wpHX_gval rfl (fun W hW => ?_) ?_
          rotate_left
          · have hcf := CF.out W hW; go_simp; rfl
          simp only [Act.put, List.setIfInBounds_toArray, List.set_cons_zero, List.set_cons_succ]
        refine' wpHX_acall rfl (fun W => ?_) ?_
        rotate_left 2
        · go_simp; exact ⟨rfl, rfl⟩
        refine (LS_ w1 _ G7.out _ _ _ _ _ _ _ (((((R2.out.below N3.out).below N4.out).below N5.out).below N6.out).below N7.out) R7.out).mono ?_
        rintro e w8 ⟨rfl, hB8, hN8⟩
        have G8 := Lib.hid hB8
        have N8 := Lib.hid hN8
        clear hB8 hN8
        refine ⟨_, rfl, G8.out, ?_⟩
        simp only [Act.put, List.setIfInBounds_toArray, List.set_cons_zero, List.set_cons_succ]
        repeat
          first
          | refine' wpHX_val rfl (fun W hW => ?_) ?_
          | refine' wpHX_gval rfl (fun W hW => ?_) ?_
          rotate_left
          · have hcf := CF.out W hW; go_simp; rfl
          simp only [Act.put, List.setIfInBounds_toArray, List.set_cons_zero, List.set_cons_succ]
        refine' wpHX_acall rfl (fun W => ?_) ?_
        rotate_left 2
        · go_simp; exact ⟨rfl, rfl⟩
        refine (LA_ C S P w1 hp _ G8.out _ _ _ _ _ _ _ _ _ _ Aab.out (RA.out.below G8.out) (RB.out.below G8.out)).mono ?_
        rintro e w9 ⟨E9, k9, c9, rfl, hr9, hB9, hN9⟩
        have R9 := Lib.hid hr9
        have G9 := Lib.hid hB9
        have N9 := Lib.hid hN9
        clear hr9 hB9 hN9
        refine ⟨_, rfl, G9.out, ?_⟩
        simp only [Act.put, List.setIfInBounds_toArray, List.set_cons_zero, List.set_cons_succ]
        repeat
          first
          | refine' wpHX_val rfl (fun W hW => ?_) ?_
          | refine' wpHX_gval rfl (fun W hW => ?_) ?_
          rotate_left
          · have hcf := CF.out W hW; go_simp; rfl
          simp only [Act.put, List.setIfInBounds_toArray, List.set_cons_zero, List.set_cons_succ]
        refine' wpHX_acall rfl (fun W => ?_) ?_
        rotate_left 2
        · go_simp; exact ⟨rfl, rfl⟩
        refine (LA_ C S P w1 hp _ G9.out _ _ _ _ _ _ _ _ _ _ Asd.out R9.out (RD_.out.below G9.out)).mono ?_
        rintro e w10 ⟨E10, k10, c10, rfl, hr10, hB10, hN10⟩
        have R10 := Lib.hid hr10
        have G10 := Lib.hid hB10
        have N10 := Lib.hid hN10
        clear hr10 hB10 hN10
        refine ⟨_, rfl, G10.out, ?_⟩
        simp only [Act.put, List.setIfInBounds_toArray, List.set_cons_zero, List.set_cons_succ]
        repeat
          first
          | refine' wpHX_val rfl (fun W hW => ?_) ?_
          | refine' wpHX_gval rfl (fun W hW => ?_) ?_
          rotate_left
          · have hcf := CF.out W hW; go_simp; rfl
          simp only [Act.put, List.setIfInBounds_toArray, List.set_cons_zero, List.set_cons_succ]
        refine' wpHX_acall rfl (fun W => ?_) ?_
        rotate_left 2
        · go_simp; exact ⟨rfl, rfl⟩
        refine (LA_ C S P w1 hp _ G10.out _ _ _ _ _ _ _ _ _ _ Abd.out (RB.out.below G10.out) (RD_.out.below G10.out)).mono ?_
        rintro e w11 ⟨E11, k11, c11, rfl, hr11, hB11, hN11⟩
        have R11 := Lib.hid hr11
        have G11 := Lib.hid hB11
        have N11 := Lib.hid hN11
        clear hr11 hB11 hN11
        refine ⟨_, rfl, G11.out, ?_⟩
        simp only [Act.put, List.setIfInBounds_toArray, List.set_cons_zero, List.set_cons_succ]
        repeat
          first
          | refine' wpHX_val rfl (fun W hW => ?_) ?_
          | refine' wpHX_gval rfl (fun W hW => ?_) ?_
          rotate_left
          · have hcf := CF.out W hW; go_simp; rfl
          simp only [Act.put, List.setIfInBounds_toArray, List.set_cons_zero, List.set_cons_succ]
        refine' wpHX_acall rfl (fun W => ?_) ?_
        rotate_left 2
        · go_simp; exact ⟨rfl, rfl⟩
        refine (LA_ C S P w1 hp _ G11.out _ _ _ _ _ _ _ _ _ _ Aas.out (RA.out.below G11.out) R11.out).mono ?_
        rintro e w12 ⟨E12, k12, c12, rfl, hr12, hB12, hN12⟩
        have R12 := Lib.hid hr12
        have G12 := Lib.hid hB12
        have N12 := Lib.hid hN12
        clear hr12 hB12 hN12
        refine ⟨_, rfl, G12.out, ?_⟩
        simp only [Act.put, List.setIfInBounds_toArray, List.set_cons_zero, List.set_cons_succ]
        repeat
          first
          | refine' wpHX_val rfl (fun W hW => ?_) ?_
          | refine' wpHX_gval rfl (fun W hW => ?_) ?_
          rotate_left
          · have hcf := CF.out W hW; go_simp; rfl
          simp only [Act.put, List.setIfInBounds_toArray, List.set_cons_zero, List.set_cons_succ]
        refine' wpHX_acall rfl (fun W => ?_) ?_
        rotate_left 2
        · go_simp; exact ⟨rfl, rfl⟩
        refine (LS_ w1 _ G12.out _ _ _ _ _ _ _ ((R10.out.below N11.out).below N12.out) R12.out).mono ?_
        rintro e w13 ⟨rfl, hB13, hN13⟩
        have G13 := Lib.hid hB13
        have N13 := Lib.hid hN13
        clear hB13 hN13
        refine ⟨_, rfl, G13.out, ?_⟩
        simp only [Act.put, List.setIfInBounds_toArray, List.set_cons_zero, List.set_cons_succ]
        repeat
          first
          | refine' wpHX_val rfl (fun W hW => ?_) ?_
          | refine' wpHX_gval rfl (fun W hW => ?_) ?_
          rotate_left
          · have hcf := CF.out W hW; go_simp; rfl
          simp only [Act.put, List.setIfInBounds_toArray, List.set_cons_zero, List.set_cons_succ]
        refine' wpHX_acall rfl (fun W => ?_) ?_
        rotate_left 2
        · go_simp; exact ⟨rfl, rfl⟩
        refine (LM_ C S P w1 hp _ G13.out _ _ _ _ _ _ _ _ _ _ Mmd.out (((((((((((R2.out.below N3.out).below N4.out).below N5.out).below N6.out).below N7.out).below N8.out).below N9.out).below N10.out).below N11.out).below N12.out).below N13.out) (RD_.out.below G13.out)).mono ?_
        rintro e w14 ⟨E14, k14, c14, rfl, hr14, hB14, hN14⟩
        have R14 := Lib.hid hr14
        have G14 := Lib.hid hB14
        have N14 := Lib.hid hN14
        clear hr14 hB14 hN14
        refine ⟨_, rfl, G14.out, ?_⟩
        simp only [Act.put, List.setIfInBounds_toArray, List.set_cons_zero, List.set_cons_succ]
        repeat
          first
          | refine' wpHX_val rfl (fun W hW => ?_) ?_
          | refine' wpHX_gval rfl (fun W hW => ?_) ?_
          rotate_left
          · have hcf := CF.out W hW; go_simp; rfl
          simp only [Act.put, List.setIfInBounds_toArray, List.set_cons_zero, List.set_cons_succ]
        refine' wpHX_acall rfl (fun W => ?_) ?_
        rotate_left 2
        · go_simp; exact ⟨rfl, rfl⟩
        refine (LM_ C S P w1 hp _ G14.out _ _ _ _ _ _ _ _ _ _ Mbd.out (RB.out.below G14.out) (RD_.out.below G14.out)).mono ?_
        rintro e w15 ⟨E15, k15, c15, rfl, hr15, hB15, hN15⟩
        have R15 := Lib.hid hr15
        have G15 := Lib.hid hB15
        have N15 := Lib.hid hN15
        clear hr15 hB15 hN15
        refine ⟨_, rfl, G15.out, ?_⟩
        simp only [Act.put, List.setIfInBounds_toArray, List.set_cons_zero, List.set_cons_succ]
        repeat
          first
          | refine' wpHX_val rfl (fun W hW => ?_) ?_
          | refine' wpHX_gval rfl (fun W hW => ?_) ?_
          rotate_left
          · have hcf := CF.out W hW; go_simp; rfl
          simp only [Act.put, List.setIfInBounds_toArray, List.set_cons_zero, List.set_cons_succ]
        refine' wpHX_acall rfl (fun W => ?_) ?_
        rotate_left 2
        · go_simp; exact ⟨rfl, rfl⟩
        refine (LM_ C S P w1 hp _ G15.out _ _ _ _ _ _ _ _ _ _ Mam.out (RA.out.below G15.out) R15.out).mono ?_
        rintro e w16 ⟨E16, k16, c16, rfl, hr16, hB16, hN16⟩
        have R16 := Lib.hid hr16
        have G16 := Lib.hid hB16
        have N16 := Lib.hid hN16
        clear hr16 hB16 hN16
        refine ⟨_, rfl, G16.out, ?_⟩
        simp only [Act.put, List.setIfInBounds_toArray, List.set_cons_zero, List.set_cons_succ]
        repeat
          first
          | refine' wpHX_val rfl (fun W hW => ?_) ?_
          | refine' wpHX_gval rfl (fun W hW => ?_) ?_
          rotate_left
          · have hcf := CF.out W hW; go_simp; rfl
          simp only [Act.put, List.setIfInBounds_toArray, List.set_cons_zero, List.set_cons_succ]
        refine' wpHX_acall rfl (fun W => ?_) ?_
        rotate_left 2
        · go_simp; exact ⟨rfl, rfl⟩
        refine (LS_ w1 _ G16.out _ _ _ _ _ _ _ ((R14.out.below N15.out).below N16.out) R16.out).mono ?_
        rintro e w17 ⟨rfl, hB17, hN17⟩
        have G17 := Lib.hid hB17
        have N17 := Lib.hid hN17
        clear hB17 hN17
        refine ⟨_, rfl, G17.out, ?_⟩
        simp only [Act.put, List.setIfInBounds_toArray, List.set_cons_zero, List.set_cons_succ]
        repeat
          first
          | refine' wpHX_val rfl (fun W hW => ?_) ?_
          | refine' wpHX_gval rfl (fun W hW => ?_) ?_
          rotate_left
          · have hcf := CF.out W hW; go_simp; rfl
          simp only [Act.put, List.setIfInBounds_toArray, List.set_cons_zero, List.set_cons_succ]
        refine' wpHX_acall rfl (fun W => ?_) ?_
        rotate_left 2
        · go_simp; exact ⟨rfl, rfl⟩
        refine (LA_ C S P w1 hp _ G17.out _ _ _ _ _ _ _ _ _ _ Abd.out (RB.out.below G17.out) (RD_.out.below G17.out)).mono ?_
        rintro e w18 ⟨E18, k18, c18, rfl, hr18, hB18, hN18⟩
        have R18 := Lib.hid hr18
        have G18 := Lib.hid hB18
        have N18 := Lib.hid hN18
        clear hr18 hB18 hN18
        refine ⟨_, rfl, G18.out, ?_⟩
        simp only [Act.put, List.setIfInBounds_toArray, List.set_cons_zero, List.set_cons_succ]
        repeat
          first
          | refine' wpHX_val rfl (fun W hW => ?_) ?_
          | refine' wpHX_gval rfl (fun W hW => ?_) ?_
          rotate_left
          · have hcf := CF.out W hW; go_simp; rfl
          simp only [Act.put, List.setIfInBounds_toArray, List.set_cons_zero, List.set_cons_succ]
        refine' wpHX_acall rfl (fun W => ?_) ?_
        rotate_left 2
        · go_simp; exact ⟨rfl, rfl⟩
        refine (LM_ C S P w1 hp _ G18.out _ _ _ _ _ _ _ _ _ _ Mas.out (RA.out.below G18.out) R18.out).mono ?_
        rintro e w19 ⟨E19, k19, c19, rfl, hr19, hB19, hN19⟩
        have R19 := Lib.hid hr19
        have G19 := Lib.hid hB19
        have N19 := Lib.hid hN19
        clear hr19 hB19 hN19
        refine ⟨_, rfl, G19.out, ?_⟩
        simp only [Act.put, List.setIfInBounds_toArray, List.set_cons_zero, List.set_cons_succ]
        repeat
          first
          | refine' wpHX_val rfl (fun W hW => ?_) ?_
          | refine' wpHX_gval rfl (fun W hW => ?_) ?_
          rotate_left
          · have hcf := CF.out W hW; go_simp; rfl
          simp only [Act.put, List.setIfInBounds_toArray, List.set_cons_zero, List.set_cons_succ]
        refine' wpHX_acall rfl (fun W => ?_) ?_
        rotate_left 2
        · go_simp; exact ⟨rfl, rfl⟩
        refine (LM_ C S P w1 hp _ G19.out _ _ _ _ _ _ _ _ _ _ Mad.out (RA.out.below G19.out) (RD_.out.below G19.out)).mono ?_
        rintro e w20 ⟨E20, k20, c20, rfl, hr20, hB20, hN20⟩
        have R20 := Lib.hid hr20
        have G20 := Lib.hid hB20
        have N20 := Lib.hid hN20
        clear hr20 hB20 hN20
        refine ⟨_, rfl, G20.out, ?_⟩
        simp only [Act.put, List.setIfInBounds_toArray, List.set_cons_zero, List.set_cons_succ]
        repeat
          first
          | refine' wpHX_val rfl (fun W hW => ?_) ?_
          | refine' wpHX_gval rfl (fun W hW => ?_) ?_
          rotate_left
          · have hcf := CF.out W hW; go_simp; rfl
          simp only [Act.put, List.setIfInBounds_toArray, List.set_cons_zero, List.set_cons_succ]
        refine' wpHX_acall rfl (fun W => ?_) ?_
        rotate_left 2
        · go_simp; exact ⟨rfl, rfl⟩
        refine (LA_ C S P w1 hp _ G20.out _ _ _ _ _ _ _ _ _ _ Amm.out ((((((((((((((((((R2.out.below N3.out).below N4.out).below N5.out).below N6.out).below N7.out).below N8.out).below N9.out).below N10.out).below N11.out).below N12.out).below N13.out).below N14.out).below N15.out).below N16.out).below N17.out).below N18.out).below N19.out).below N20.out) R20.out).mono ?_
        rintro e w21 ⟨E21, k21, c21, rfl, hr21, hB21, hN21⟩
        have R21 := Lib.hid hr21
        have G21 := Lib.hid hB21
        have N21 := Lib.hid hN21
        clear hr21 hB21 hN21
        refine ⟨_, rfl, G21.out, ?_⟩
        simp only [Act.put, List.setIfInBounds_toArray, List.set_cons_zero, List.set_cons_succ]
        repeat
          first
          | refine' wpHX_val rfl (fun W hW => ?_) ?_
          | refine' wpHX_gval rfl (fun W hW => ?_) ?_
          rotate_left
          · have hcf := CF.out W hW; go_simp; rfl
          simp only [Act.put, List.setIfInBounds_toArray, List.set_cons_zero, List.set_cons_succ]
        refine' wpHX_acall rfl (fun W => ?_) ?_
        rotate_left 2
        · go_simp; exact ⟨rfl, rfl⟩
        refine (LS_ w1 _ G21.out _ _ _ _ _ _ _ ((R19.out.below N20.out).below N21.out) R21.out).mono ?_
        rintro e w22 ⟨rfl, hB22, hN22⟩
        have G22 := Lib.hid hB22
        have N22 := Lib.hid hN22
        clear hB22 hN22
        refine ⟨_, rfl, G22.out, ?_⟩
        simp only [Act.put, List.setIfInBounds_toArray, List.set_cons_zero, List.set_cons_succ]
        repeat
          first
          | refine' wpHX_val rfl (fun W hW => ?_) ?_
          | refine' wpHX_gval rfl (fun W hW => ?_) ?_
          rotate_left
          · have hcf := CF.out W hW; go_simp; rfl
          simp only [Act.put, List.setIfInBounds_toArray, List.set_cons_zero, List.set_cons_succ]
        refine wpHX_nil ?_
        obtain ⟨f0, f1, f2⟩ := CF.out _ G22.out
        go_wp2_with fail
        refine (LE_ C S P w1 hp _ G22.out _ _ _ _ X _ Ea.out (RA.out.below G22.out)).mono ?_
        rintro e w23 ⟨rfl, hB23, hN23⟩
        have G23 := Lib.hid hB23
        have N23 := Lib.hid hN23
        clear hB23 hN23 f0 f1 f2
        obtain ⟨f0, f1, f2⟩ := CF.out _ G23.out
        go_wp2_with fail
        refine (LE_ C S P w1 hp _ G23.out _ _ _ _ X _ Eb.out (RB.out.below G23.out)).mono ?_
        rintro e w24 ⟨rfl, hB24, hN24⟩
        have G24 := Lib.hid hB24
        have N24 := Lib.hid hN24
        clear hB24 hN24 f0 f1 f2
        go_wp2_with fail
        have G25 : Hid (Abv w1 w24.drew) := bwDrew G24.out
        have N25 : Hid (Below w24.heap.size w24 w24.drew) := bwDrew (Below.refl _ _)
        refine wp_region_W (S := Abv w1) [(false, 0), (false, 1), (false, 2), (false, 3), (false, 5), (true, 4), (true, 6), (false, 7), (false, 8), (false, 9), (false, 10), (false, 11)] (by kernel_rfl) (by kernel_rfl) G25.out ?_
        simp only [attachW, List.getElem?_cons_zero, List.getElem?_cons_succ]
        repeat
          first
          | refine' wpHX_val rfl (fun W hW => ?_) ?_
          | refine' wpHX_gval rfl (fun W hW => ?_) ?_
          rotate_left
          · have hcf := CF.out W hW; go_simp; rfl
          simp only [Act.put, List.setIfInBounds_toArray, List.set_cons_zero, List.set_cons_succ]
        refine' wpHX_acall rfl (fun W => ?_) ?_
        rotate_left 2
        · go_simp; exact ⟨rfl, rfl⟩
        refine (LA_ C S P w1 hp _ G25.out _ _ _ _ _ _ _ _ _ _ Aab.out (RA.out.below G25.out) (RB.out.below G25.out)).mono ?_
        rintro e w26 ⟨E26, k26, c26, rfl, hr26, hB26, hN26⟩
        have R26 := Lib.hid hr26
        have G26 := Lib.hid hB26
        have N26 := Lib.hid hN26
        clear hr26 hB26 hN26
        refine ⟨_, rfl, G26.out, ?_⟩
        simp only [Act.put, List.setIfInBounds_toArray, List.set_cons_zero, List.set_cons_succ]
        repeat
          first
          | refine' wpHX_val rfl (fun W hW => ?_) ?_
          | refine' wpHX_gval rfl (fun W hW => ?_) ?_
          rotate_left
          · have hcf := CF.out W hW; go_simp; rfl
          simp only [Act.put, List.setIfInBounds_toArray, List.set_cons_zero, List.set_cons_succ]
        refine' wpHX_acall rfl (fun W => ?_) ?_
        rotate_left 2
        · go_simp; exact ⟨rfl, rfl⟩
        refine (LE_ C S P w1 hp _ G26.out _ _ _ _ X _ Es.out R26.out).mono ?_
        rintro e w27 ⟨rfl, hB27, hN27⟩
        have G27 := Lib.hid hB27
        have N27 := Lib.hid hN27
        clear hB27 hN27
        refine ⟨_, rfl, G27.out, ?_⟩
        simp only [Act.put, List.setIfInBounds_toArray, List.set_cons_zero, List.set_cons_succ]
        repeat
          first
          | refine' wpHX_val rfl (fun W hW => ?_) ?_
          | refine' wpHX_gval rfl (fun W hW => ?_) ?_
          rotate_left
          · have hcf := CF.out W hW; go_simp; rfl
          simp only [Act.put, List.setIfInBounds_toArray, List.set_cons_zero, List.set_cons_succ]
        refine wpHX_nil ?_
        obtain ⟨f0, f1, f2⟩ := CF.out _ G27.out
        go_wp2_with fail
        refine (LE_ C S P w1 hp _ G27.out _ _ _ _ X _ Em.out (((((((((((((((((((((((((R2.out.below N3.out).below N4.out).below N5.out).below N6.out).below N7.out).below N8.out).below N9.out).below N10.out).below N11.out).below N12.out).below N13.out).below N14.out).below N15.out).below N16.out).below N17.out).below N18.out).below N19.out).below N20.out).below N21.out).below N22.out).below N23.out).below N24.out).below N25.out).below N26.out).below N27.out)).mono ?_
        rintro e w28 ⟨rfl, hB28, hN28⟩
        have G28 := Lib.hid hB28
        have N28 := Lib.hid hN28
        clear hB28 hN28 f0 f1 f2
        obtain ⟨f0, f1, f2⟩ := CF.out _ G28.out
        go_wp2_with fail
        refine (LG_ C S P w1 _ G28.out va vb _ HVF.out HVA.out HVB.out Gs.out).mono ?_
        rintro e w29 ⟨rfl, hB29, hN29⟩
        have G29 := Lib.hid hB29
        have N29 := Lib.hid hN29
        clear hB29 hN29 f0 f1 f2
        obtain ⟨f0, f1, f2⟩ := CF.out _ G29.out
        go_wp2_with fail
        refine (LH_ C S P w1 _ G29.out va vb _ HVF.out HVA.out HVB.out Gm.out).mono ?_
        rintro e w30 ⟨rfl, hB30, hN30⟩
        have G30 := Lib.hid hB30
        have N30 := Lib.hid hN30
        clear hB30 hN30 f0 f1 f2
        obtain ⟨f0, f1, f2⟩ := CF.out _ G30.out
        go_wp2_with fail
        have G31 : Hid (Abv w1 (w30.alloc (.cells #[.int .i64 1] 3))) := bwAlloc G30.out _
        have N31 : Hid (Below w30.heap.size w30 (w30.alloc (.cells #[.int .i64 1] 3))) := bwA _ _
        have ONE : Hid ((⟨some ⟨w30.heap.size, 0, none⟩, 1, 1, [1]⟩ : Sl).R (w30.alloc (.cells #[.int .i64 1] 3))) := Sl.lit w30 [1] 3 w30.heap.size 1 rfl rfl (by omega)
        refine (LM_ C S P w1 hp _ G31.out _ _ _ _ _ _ _ _ _ _ Ma1.out (RA.out.below G31.out) ONE.out).mono ?_
        rintro e w32 ⟨E32, k32, c32, rfl, hr32, hB32, hN32⟩
        have R32 := Lib.hid hr32
        have G32 := Lib.hid hB32
        have N32 := Lib.hid hN32
        clear hr32 hB32 hN32 f0 f1 f2
        go_wp2_with fail
        refine (LS_ w1 _ G32.out _ _ _ _ _ _ _ R32.out (RA.out.below G32.out)).mono ?_
        rintro e w33 ⟨rfl, hB33, hN33⟩
        have G33 := Lib.hid hB33
        have N33 := Lib.hid hN33
        clear hB33 hN33
        obtain ⟨f0, f1, f2⟩ := CF.out _ G33.out
        go_wp2_with fail
        have NIL : Hid ((⟨none, 0, 0, []⟩ : Sl).R w33) := ⟨rfl, by simp only; omega, RD.nil_ _ _, Nat.le_refl _, by simp⟩
        refine (LA_ C S P w1 hp _ G33.out _ _ _ _ _ _ _ _ _ _ Aa0.out (RA.out.below G33.out) NIL.out).mono ?_
        rintro e w34 ⟨E34, k34, c34, rfl, hr34, hB34, hN34⟩
        have R34 := Lib.hid hr34
        have G34 := Lib.hid hB34
        have N34 := Lib.hid hN34
        clear hr34 hB34 hN34 f0 f1 f2
        go_wp2_with fail
        refine (LS_ w1 _ G34.out _ _ _ _ _ _ _ R34.out (RA.out.below G34.out)).mono ?_
        rintro e w35 ⟨rfl, hB35, hN35⟩
        have G35 := Lib.hid hB35
        have N35 := Lib.hid hN35
        clear hB35 hN35
        go_wp2_with fail
        refine (LX_ w1 _ G35.out).mono ?_
        rintro e w36 ⟨rfl, hB36, hN36⟩
        have G36 := Lib.hid hB36
        have N36 := Lib.hid hN36
        clear hB36 hN36
        go_wp2_with fail
        go_ret
        exact ⟨rfl, bwStep HB1.out G36.out⟩
end Go.Proofs.Ythpcneeidhmdkaa.polynomialRing
namespace Go.Proofs.Ythpcneeidhmdkaa.polynomialRing
open Go.ChangeShapes Go.WideShapes Go.ChangeAt Go.RowKit
set_option linter.unusedVariables false
theorem k0 : Rows.polynomialRingRow.wf (OpenSpec.ofChange Rows.polynomialRingSpec) = true := by kernel_rfl
theorem k3 : Try.f12.params.all (Try.prog.readableRec ·) = true := by kernel_rfl
theorem k4 : namedTie Try.prog Rows.polynomialRingRow.named Rows.polynomialRingSpec.vars = true := by kernel_rfl
theorem k5 : (Rows.polynomialRingRow.stops == []) = true := by kernel_rfl
theorem k7 : (Rows.polynomialRingRow.knobs == []) = true := by kernel_rfl
theorem k9 : (Rows.polynomialRingRow.inPlace == Try.prog.inPlace 12) = true := by kernel_rfl
theorem k10 : (Rows.polynomialRingRow.unfollowed == Try.prog.unfollowed 12) = true := by kernel_rfl
theorem k11 : (Rows.polynomialRingRow.recurses == Try.prog.recurses 12) = true := by kernel_rfl
theorem k12 : (Rows.polynomialRingRow.named == Try.prog.varsNamed 12) = true := by kernel_rfl
theorem k13 : (Rows.polynomialRingRow.maps == (Try.f12.params.toList ++ Rows.polynomialRingSpec.plain.varTypes Try.prog).any (Try.prog.mapsRec ·)) = true := by kernel_rfl
theorem k14 : (Rows.polynomialRingRow.ifaces == (Try.f12.params.toList ++ Rows.polynomialRingSpec.plain.varTypes Try.prog).any (Try.prog.ifacesRec ·)) = true := by kernel_rfl
theorem k15 : (Rows.polynomialRingRow.mapsOut == Try.prog.mapsAmong Try.f12.resultTypes.toList) = true := by kernel_rfl
theorem k16 : (Rows.polynomialRingRow.loops == (Try.f12.params.toList ++ Rows.polynomialRingSpec.plain.varTypes Try.prog).any (Try.prog.loopsFrom ·)) = true := by kernel_rfl
theorem k17 : (Rows.polynomialRingRow.wideKeys == (Try.f12.params.toList ++ Rows.polynomialRingSpec.plain.varTypes Try.prog ++ Try.f12.resultTypes.toList).any (Try.prog.wideKeysFrom ·)) = true := by kernel_rfl
theorem k18 : Rows.polynomialRingSpec.vars.all (Try.prog.varReadable ·) = true := by kernel_rfl
theorem k19 : Try.f12.resultTypes.all (fun t => Try.prog.readableRec t && decide (t < Try.prog.types.size)) = true := by kernel_rfl
theorem k20 : (Rows.polynomialRingRow.ifacesOut == Try.f12.resultTypes.toList.any (Try.prog.ifacesRec ·)) = true := by kernel_rfl
theorem k21 : (Rows.polynomialRingRow.loopsOut == Try.f12.resultTypes.toList.any (Try.prog.loopsFrom ·)) = true := by kernel_rfl
theorem k22 : (Rows.polynomialRingRow.plainKeys == Try.prog.plainKeys) = true := by kernel_rfl
theorem k23 : Rows.polynomialRingRow.shortTexts.isNone = true := by kernel_rfl
theorem k26 : (Rows.polynomialRingRow.lifted == Try.prog.liftsFinal) = true := by kernel_rfl
theorem k27 : (Try.prog.make == some Rows.polynomialRingRow.make) = true := by kernel_rfl
theorem k28 : (Rows.polynomialRingRow.kinds == (if Rows.polynomialRingRow.domain.isEmpty then [] else Try.f12.params.toList.map fun t => match Try.prog.underlying t with | some (.int k) => some k | _ => none)) = true := by kernel_rfl
theorem k29 : (Rows.polynomialRingRow.pinned == Rows.polynomialRingRow.pinnedBy) = true := by kernel_rfl
theorem k30 : (Rows.polynomialRingRow.veiled == (Try.f12.params.toList ++ Rows.polynomialRingSpec.plain.varTypes Try.prog ++ Try.f12.resultTypes.toList).any (Try.prog.veiledRec ·)) = true := by kernel_rfl
theorem k31 : Rows.polynomialRingRow.veiledFits Try.prog Try.f12.params.toList (Try.f12.params.toList ++ Rows.polynomialRingSpec.plain.varTypes Try.prog ++ Try.f12.resultTypes.toList) = true := by kernel_rfl
theorem closedK : joinedFacts Try.prog 12 Try.f12 Rows.polynomialRingSpec Rows.polynomialRingRow = true := and_tt (and_tt (and_tt (and_tt (and_tt (and_tt (and_tt (and_tt (and_tt (and_tt (and_tt (and_tt (and_tt (and_tt (and_tt (and_tt (and_tt (and_tt (and_tt (and_tt (and_tt (and_tt (and_tt (and_tt (and_tt (and_tt (and_tt (and_tt (and_tt (and_tt (and_tt k0 fp_laid) fp_mapsRowed) k3) k4) k5) fp_stops) k7) fp_stopKnobs) k9) k10) k11) k12) k13) k14) k15) k16) k17) k18) k19) k20) k21) k22) k23) fp_stopsHeard) fp_mayEnter) k26) k27) k28) k29) k30) k31

theorem ownK : ownKnob Try.prog.godebug = none := by kernel_rfl
theorem laidK : laidOutB Try.prog = true := by kernel_rfl
set_option maxRecDepth 100000 in
set_option maxHeartbeats 1000000 in
theorem lifted (os : Os) (started : os.Started) (H : Type) (enc : TypeId × Value → H) :
    ReturnsInHanded {} Try.checked os 12 .any (Rows.polynomialRingSpec.pre6 enc Try.prog Try.f12 Rows.polynomialRingRow.domain false) (Rows.polynomialRingSpec.post enc Try.prog Try.f12 false true false false) := by
  refine returnsInHanded_of_change (C := Try.checked) ownK started (by kernel_rfl) Try.func12
    (ChangeSpec.witness6 (enc := enc) (C := Try.checked) false ⟨#[], #[.agg #[.int .i64 0, .int .i64 0, .int .i64 0], .slice none 0 0, .slice none 0 0, .slice none 0 0, .int .i64 0], []⟩ 12 (by kernel_rfl) (by kernel_rfl) (by kernel_rfl) (by kernel_rfl)) ?_
  intro W base args ds gs before hval0 hW hcnd _
  have hval : ∀ (j : Nat) t v, Try.f12.params[j]? = some t → args[j]? = some v → Value.okWide Try.prog W .any base t v := hval0
  have hW' := hW
  obtain ⟨p, q, hA0, hV, rfl, hfz, hnd⟩ := hW
  have hA : DataW.TrodAll enc Try.prog W 0 (fun _ => true) true Try.f12.params.toList args.toList ds p := hA0
  rw [Try.params12] at hA hval
  obtain ⟨v0, vs0, d0, ds0, p0, q0, hargs, rfl, rfl, h0, r0⟩ := trodAll_cons hA
  obtain ⟨v1, vs1, d1, ds1, p1, q1, rfl, rfl, rfl, h1, r1⟩ := trodAll_cons r0
  obtain ⟨v2, vs2, d2, ds2, p2, q2, rfl, rfl, rfl, h2, r2⟩ := trodAll_cons r1
  obtain ⟨v3, vs3, d3, ds3, p3, q3, rfl, rfl, rfl, h3, r3⟩ := trodAll_cons r2
  obtain ⟨v4, vs4, d4, ds4, p4, q4, rfl, rfl, rfl, h4, r4⟩ := trodAll_cons r3
  obtain ⟨rfl, rfl, rfl⟩ := trodAll_nil r4
  obtain rfl : args = #[v0, v1, v2, v3, v4] := by cases args; simp_all
  obtain ⟨rfl, rfl⟩ := trodVars_none hV
  have hrd : ∀ t ∈ Try.f12.params.toList, Try.prog.readableRec t = true ∧ t < Try.prog.types.size := by
    rw [Try.params12]
    intro t ht
    simp only [List.mem_cons, List.not_mem_nil, or_false] at ht
    rcases ht with rfl | rfl | rfl | rfl | rfl <;> exact ⟨by kernel_rfl, of_decide_eq_true (by kernel_rfl)⟩
  obtain ⟨c, s, p, rfl, bc, bs, bp⟩ := open_fld (hval 0 23 v0 rfl rfl) h0
  obtain ⟨q, rfl, hq⟩ := open_sl (hval 1 24 v1 rfl rfl) h1
  obtain ⟨r, rfl, hr⟩ := open_sl (hval 2 24 v2 rfl rfl) h2
  obtain ⟨t, rfl, ht⟩ := open_sl (hval 3 24 v3 rfl rfl) h3
  obtain ⟨x, rfl, rfl, rfl, wx⟩ := open_int Try.underlying3 (hval 4 3 v4 rfl rfl) h4
  have bx := bd_i64 wx
  refine (law_walk c s p q r t x W bc bs bp hq hr ht bx).mono fun e W' ⟨he, hb⟩ => ?_
  subst he
  exact ⟨_, rfl, law_post laidK Try.underlying4 rfl rfl hrd hW' rfl hb⟩
theorem over : Rows.polynomialRingRow.holds Try.pinned (OpenSpec.ofChange Rows.polynomialRingSpec) :=
  OpenClaim.holds_of_wide 12 Try.f12 rfl rfl rfl rfl rfl rfl rfl ⟨rfl, rfl, rfl, rfl, rfl⟩ rfl rfl rfl rfl rfl (by kernel_rfl) Try.func12 closedK
    (of_decide_eq_true (by kernel_rfl)) (by unfold Func.isWrapper; first | (rw [if_pos (by decide +kernel)]; kernel_rfl) | (rw [if_neg (by decide +kernel)]; exact ⟨rfl, rfl⟩))
    (fun os started H enc _ => lifted os started H enc)
/-- THE STATEMENT -/
theorem proved : Rows.PolynomialRingSaid := over
end Go.Proofs.Ythpcneeidhmdkaa.polynomialRing
