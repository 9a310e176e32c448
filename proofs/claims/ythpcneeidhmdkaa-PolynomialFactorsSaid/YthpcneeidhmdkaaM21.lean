import Derived.Test.YthpcneeidhmdkaaM20
namespace Go.Proofs.Ythpcneeidhmdkaa
open Go.RowKit
set_option linter.unusedVariables false
/-! the reference: Monic and GCD -/
theorem Ints.slR {w : World} {v : Value} {l : List Int} (h : Ints w v l) : ∃ A n c, v = .slice A n c ∧ (⟨A, n, c, l⟩ : Sl).R w := by
  obtain ⟨q, rfl, hq, rfl⟩ := h.sl
  exact ⟨q.A, q.n, q.c, rfl, hq⟩
theorem scale_mon {C S P : Nat} (hv : VF C S P) {a : List Nat} (hla : LtAll S a) (hta : Trimmed a) : scaleL S P a (finvN S P (a.getD (a.length - 1) 0)) = monL S P a := by
  have h := monL_trimmed hv hla hta
  show trimL (monL S P a) = monL S P a
  exact trimL_self h
set_option maxRecDepth 100000 in
set_option maxHeartbeats 4000000 in
theorem rMonic_n (C S P : Nat) (a : List Nat) (A : Option Addr) (n ca : Nat) (w : World) (hs : (S : Int) ≤ 9223372036854775807) (hp : (P : Int) ≤ 9223372036854775807) (hv : VF C S P) (hla : LtAll S a) (hta : Trimmed a) (hna : a.length ≤ 4097)
    (hq : (⟨A, n, ca, zl a⟩ : Sl).R w) :
    Calls Try.prog 69 #[fldv C S P, .slice A n ca] w fun e w' => ∃ v, e = .returned v ∧ Ints w' v (zl (monL S P a)) ∧ Below w.heap.size w w' := by
  have hnn : n = a.length := hq.hn.trans (zl_length a)
  have hbx : Below w.heap.size w (w.alloc (fldB C S P)) := (Below.refl _ _).alloc (Nat.le_refl _) _
  have HQ := Lib.hid (hq.below hbx)
  have CB : Hid (CellsAt (w.alloc (fldB C S P)) w.heap.size (fldC C S P)) := CellsAt.new _ _ _ _ rfl
  have HBX := Lib.hid hbx
  by_cases ha0 : a = []
  · have hn0 : n = 0 := by rw [hnn, ha0]; rfl
    have HE : Hid (monL S P a = []) := by show _ = _; rw [ha0]; rfl
    subst hn0
    clear hv hla hta hna hnn ha0 hq hbx
    go_enter Try.func69, Try.ntmps69
    go_wp2
    go_ret
    exact ⟨_, rfl, by rw [HE.out]; exact Ints.nil_ _, HBX.out⟩
  · have hn1 : 1 ≤ n := by rw [hnn]; exact List.length_pos_iff.2 ha0
    obtain ⟨tp, htp⟩ : ∃ tp, tp = n - 1 := ⟨_, rfl⟩
    have HL0 : Hid (a.getD tp 0 ≠ 0) := by rw [htp, hnn]; exact trimmed_last hta ha0
    have HLT : Hid (a.getD tp 0 < S) := hla tp
    have HSC : Hid (scaleRes C S P (zl a) ((finvN S P (a.getD tp 0) : Nat) : Int) = (zl (monL S P a), 0)) := by
      show _ = _
      have e : finvN S P (a.getD tp 0) = finvN S P (a.getD (a.length - 1) 0) := by rw [htp, hnn]
      unfold scaleRes
      rw [show pvB C S P (zl a) = true from by unfold pvB; rw [vld_of hv, polB_zl hla hna hta]; rfl, isB_of (invN_lt hv), nl_zl, e, ← scale_mon hv hla hta]; rfl
    have hs1 : ((n : Int) - 1) = (tp : Int) := by omega
    have z2 : ((n : Int) == 0) = false := by rw [beq_eq_false_iff_ne]; omega
    have htn : tp < n := by omega
    have hn7 : n ≤ 4097 := by omega
    have hwt : IntKind.i64.wrap (tp : Int) = (tp : Int) := wr64 _ (by omega) (by omega)
    have HV := Lib.hid hv
    obtain ⟨ad, rfl, hadw, hca⟩ := HQ.out.rd (by rw [zl_length, ← hnn]; omega)
    have HAC : Hid (∀ W, Abv (w.alloc (fldB C S P)) W → (W.cell? ⟨w.heap.size, 0, none⟩ = some (.int .i64 C) ∧ W.cell? ⟨w.heap.size, 1, none⟩ = some (.int .i64 S) ∧ W.cell? ⟨w.heap.size, 2, none⟩ = some (.int .i64 P)) ∧ W.cell? (ad.add tp) = some (.int .i64 ((a.getD tp 0 : Nat) : Int))) := by
      show ∀ W, _
      intro W hW
      refine ⟨fldC_cells (CB.out.below hW), ?_⟩
      rw [hW.cell (by rw [block_of_add]; exact hadw), hca tp (by rw [zl_length, ← hnn]; omega), zl_getD]
    clear hv hla hta hna hnn ha0 hq hbx htp hca hadw
    generalize a.getD tp 0 = bt at *
    have HD0 : Hid (Abv (w.alloc (fldB C S P)) (w.alloc (fldB C S P)).drew) := bwDrew (Below.refl _ _)
    go_enter Try.func69, Try.ntmps69
    go_wp2_with fail
    refine wp_region_W (S := Abv (w.alloc (fldB C S P))) [(false, 0), (false, 1), (false, 2), (false, 3), (false, 4), (false, 5), (false, 6), (true, 7), (false, 8), (false, 9), (false, 10), (false, 11), (false, 12)] (by kernel_rfl) (by kernel_rfl) HD0.out ?_
    simp only [attachW, List.getElem?_cons_zero, List.getElem?_cons_succ]
    repeat
      refine' wpHX_val rfl (fun W hW => ?_) ?_
      rotate_left
      · have hcf := HAC.out W hW; go_simp; rfl
      simp only [Act.put, List.setIfInBounds_toArray, List.set_cons_zero, List.set_cons_succ]
    refine' wpHX_acall rfl (fun W => ?_) ?_
    rotate_left 2
    · go_simp; exact ⟨rfl, rfl⟩
    refine (rfinv_any C S P bt _ hs hp HV.out HLT.out HL0.out).mono ?_
    rintro e w3 ⟨rfl, hb3⟩
    have HB3 : Hid (Abv (w.alloc (fldB C S P)) w3) := bwStep HD0.out hb3
    clear hb3
    refine ⟨_, rfl, HB3.out, ?_⟩
    simp only [Act.put, List.setIfInBounds_toArray, List.set_cons_zero, List.set_cons_succ]
    repeat
      refine' wpHX_val rfl (fun W hW => ?_) ?_
      rotate_left
      · have hcf := HAC.out W hW; go_simp; rfl
      simp only [Act.put, List.setIfInBounds_toArray, List.set_cons_zero, List.set_cons_succ]
    refine wpHX_nil ?_
    obtain ⟨⟨f0, f1, f2⟩, -⟩ := HAC.out w3 HB3.out
    go_wp2_with fail
    refine (rScale_any C S P _ ⟨some ad, n, ca, zl a⟩ _ hs hp (HQ.out.below HB3.out)).mono ?_
    rintro e w4 ⟨v4, rfl, hI4, hb4⟩
    rw [HSC.out] at hI4 ⊢
    have HI4 := Lib.hid hI4
    have HB4 := Lib.hid hb4
    clear hI4 hb4
    go_wp2
    go_ret
    exact ⟨_, rfl, HI4.out, bwStep (bw1 HB3.out) HB4.out⟩
/-- the state of the loop -/
structure GQ (w0 wr : World) (S P : Nat) (A : Option Addr) (n c : Nat) (B : Option Addr) (m d : Nat) (a b G : List Nat) : Prop where
  B0 : Abv w0 wr
  ha : (⟨A, n, c, zl a⟩ : Sl).R wr
  hb : (⟨B, m, d, zl b⟩ : Sl).R wr
  la : LtAll S a
  lb : LtAll S b
  ta : Trimmed a
  tb : Trimmed b
  na : a.length ≤ 4097
  nb : b.length ≤ 4097
  g : gcdF S P b.length a b = G
set_option maxRecDepth 100000 in
set_option maxHeartbeats 4000000 in
theorem rGCD_any (c s p : Int) (q r : Sl) (w : World) (hs : s ≤ 9223372036854775807) (hp : p ≤ 9223372036854775807) (hq : q.R w) (hr : r.R w) :
    Calls Try.prog 25 #[fldv c s p, q.v, r.v] w (RetL w (gcdRes c s p q.xs r.xs)) := by
  obtain ⟨A, n, ca, xs⟩ := q
  obtain ⟨B, m, cb, ys⟩ := r
  have hbx : Below w.heap.size w (w.alloc (fldB c s p)) := (Below.refl _ _).alloc (Nat.le_refl _) _
  have HQ := Lib.hid (hq.below hbx)
  have HR := Lib.hid (hr.below hbx)
  show Calls Try.prog 25 #[fldv c s p, .slice A n ca, .slice B m cb] w (RetL w (gcdRes c s p xs ys))
  have CB : Hid (CellsAt (w.alloc (fldB c s p)) w.heap.size (fldC c s p)) := CellsAt.new _ _ _ _ rfl
  cases hV : (pvB c s p xs && pvB c s p ys) with
  | false =>
    have HF : Hid (gcdRes c s p xs ys = ([], 1)) := by show _ = _; unfold gcdRes; rw [hV]; rfl
    rcases pvB_false hV with h1 | ⟨h1, h2⟩
    · have H1 := Lib.hid h1
      clear hV h1 hq hr hbx
      go_enter Try.func25, Try.ntmps25
      go_wp2_with (go_at_call 46; refine (rpValid_n c s p A n ca xs _ hs hp HQ.out).mono ?_; rintro e w1 ⟨rfl, hb1⟩; rw [H1.out]; have HB1 := Lib.hid hb1; clear hb1)
      go_ret2
      exact RetL.mk HF.out (Ints.nil_ _) (bw1 HB1.out)
    · have H1 := Lib.hid h1
      have H2 := Lib.hid h2
      clear hV h1 h2 hq hr hbx
      go_enter Try.func25, Try.ntmps25
      go_wp2_with fail
      refine (rpValid_n c s p A n ca xs _ hs hp HQ.out).mono ?_
      rintro e w1 ⟨rfl, hb1⟩
      rw [H1.out]
      have HB1 := Lib.hid hb1
      clear hb1
      obtain ⟨f0, f1, f2⟩ := fldC_cells (CB.out.below HB1.out)
      go_wp2_with fail
      refine (rpValid_n c s p B m cb ys _ hs hp (HR.out.below HB1.out)).mono ?_
      rintro e w2 ⟨rfl, hb2⟩
      rw [H2.out]
      have HB2 := Lib.hid (bwStep HB1.out hb2)
      clear hb2 f0 f1 f2
      go_wp2
      go_ret2
      exact RetL.mk HF.out (Ints.nil_ _) (bw1 HB2.out)
  | true =>
    have hV' := hV
    rw [Bool.and_eq_true] at hV'
    obtain ⟨C, S, P, a, rfl, rfl, rfl, rfl, hv, hla, hta, hna⟩ := pvB_nat hV'.1
    obtain ⟨C', S', P', b, e1, e2, e3, rfl, -, hlb, htb, hnb⟩ := pvB_nat hV'.2
    obtain rfl : S = S' := by omega
    have HF : Hid (gcdRes C S P (zl a) (zl b) = (zl (monL S P (gcdF S P b.length a b)), 0)) := gcdRes_ok hv hla hta hna hlb htb hnb
    have H1 := Lib.hid hV'.1
    have H2 := Lib.hid hV'.2
    have HVF := Lib.hid hv
    have HLA := Lib.hid hla
    have HLB := Lib.hid hlb
    have HTA := Lib.hid hta
    have HTB := Lib.hid htb
    have HNA := Lib.hid hna
    have HNB := Lib.hid hnb
    clear hV hV' e1 e2 e3 hv hla hlb hta htb hna hnb hq hr hbx
    go_enter Try.func25, Try.ntmps25
    go_wp2_with fail
    refine (rpValid_n C S P A n ca (zl a) _ hs hp HQ.out).mono ?_
    rintro e w1 ⟨rfl, hb1⟩
    rw [H1.out]
    have HB1 := Lib.hid hb1
    clear hb1
    obtain ⟨f0, f1, f2⟩ := fldC_cells (CB.out.below HB1.out)
    go_wp2_with fail
    refine (rpValid_n C S P B m cb (zl b) _ hs hp (HR.out.below HB1.out)).mono ?_
    rintro e w2 ⟨rfl, hb2⟩
    rw [H2.out]
    have HB2 := Lib.hid (bwStep HB1.out hb2)
    clear hb2 f0 f1 f2 HB1
    have HG : Hid (GQ w2 w2 S P A n ca B m cb a b (gcdF S P b.length a b)) := ⟨Below.refl _ _, HQ.out.below HB2.out, HR.out.below HB2.out, HLA.out, HLB.out, HTA.out, HTB.out, HNA.out, HNB.out, rfl⟩
    have HX : Hid (CellsAt w2 w.heap.size (fldC C S P)) := CB.out.below HB2.out
    have HBF : Hid (Below w.heap.size w w2) := bw1 HB2.out
    clear HQ HR CB HB2
    generalize gcdF S P b.length a b = G at *
    go_wp2_with fail
    go_loopw [8, 9] (fun av bv wr => ∃ (A' : Option Addr) (n1 c' : Nat) (B' : Option Addr) (m1 d' : Nat) (a' b' : List Nat), av = .slice A' n1 c' ∧ bv = .slice B' m1 d' ∧ Hid (GQ w2 wr S P A' n1 c' B' m1 d' a' b' G)) (fun _ bv _ => lenV bv)
    case atStart => exact ⟨_, _, _, _, _, _, _, _, rfl, rfl, HG⟩
    case round =>
      obtain ⟨A', n1, c', B', m1, d', a', b', rfl, rfl, hG⟩ := hrel
      have HN1 : Hid (n1 = a'.length) := hG.out.ha.hn.trans (zl_length a')
      have HM1 : Hid (m1 = b'.length) := hG.out.hb.hn.trans (zl_length b')
      have hn17 : n1 ≤ 4097 := by have := hG.out.na; have := HN1.out; omega
      have hm17 : m1 ≤ 4097 := by have := hG.out.nb; have := HM1.out; omega
      obtain ⟨f0, f1, f2⟩ := fldC_cells (HX.out.below hG.out.B0)
      by_cases hm0 : m1 = 0
      · subst hm0
        have hbe : b' = [] := List.eq_nil_of_length_eq_zero HM1.out.symm
        have HGE : Hid (G = a') := by
          show _ = _
          rw [← hG.out.g, hbe]; exact gcdF_nil _ _ _ _
        clear hbe
        go_wp2_with fail
        refine (rMonic_n C S P a' A' n1 c' _ hs hp HVF.out hG.out.la hG.out.ta hG.out.na hG.out.ha).mono ?_
        rintro e w4 ⟨v4, rfl, hI, hb4⟩
        have HI := Lib.hid hI
        have HB4 := Lib.hid hb4
        clear hI hb4
        go_wp2
        go_ret2
        exact RetL.mk HF.out (by rw [HGE.out]; exact HI.out) (bwStep HBF.out (bwStep hG.out.B0 HB4.out))
      · have HNE : Hid (b' ≠ []) := fun e => by have := HM1.out; rw [e] at this; simp at this; omega
        have hm1 : 0 < m1 := by omega
        have HDV : Hid (divRes C S P (zl a') (zl b') = (zl (divQ S P a' b'), zl (divRest S P a' b'), 0)) := divRes_ok HVF.out hG.out.la hG.out.ta hG.out.na hG.out.lb hG.out.tb hG.out.nb HNE.out
        clear hm0
        go_wp2_with fail
        refine (rDivMod_any C S P ⟨A', n1, c', zl a'⟩ ⟨B', m1, d', zl b'⟩ _ hs hp hG.out.ha hG.out.hb).mono ?_
        rintro e w4 ⟨vq, vr, rfl, hIq, hIr, hb4⟩
        have hIr2 : Ints w4 vr (zl (divRest S P a' b')) := by
          have e1 : (divRes C S P (⟨A', n1, c', zl a'⟩ : Sl).xs (⟨B', m1, d', zl b'⟩ : Sl).xs).2.1 = zl (divRest S P a' b') := by rw [HDV.out]
          rw [← e1]; exact hIr
        obtain ⟨E, k, ce, rfl, hE⟩ := hIr2.slR
        have HE := Lib.hid hE
        have HB4 := Lib.hid hb4
        clear hIq hIr hIr2 hE hb4
        go_wp2
        have hl : 1 ≤ b'.length := List.length_pos_iff.2 HNE.out
        have hlt := divRest_length HVF.out hG.out.la hG.out.lb hl (trimmed_last hG.out.tb HNE.out)
        refine ⟨⟨_, _, _, _, _, _, b', divRest S P a' b', rfl, rfl, ⟨bwStep hG.out.B0 HB4.out, hG.out.hb.below HB4.out, HE.out, hG.out.lb, divRest_lt HVF.out hG.out.la, hG.out.tb, divRest_trimmed HVF.out a' b', hG.out.nb, by have := hG.out.nb; omega, ?_⟩⟩, ?_⟩
        · rw [← gcdF_step HVF.out hG.out.la hG.out.lb hG.out.tb HNE.out]; exact hG.out.g
        · show k < m1
          have h1 : k = (divRest S P a' b').length := HE.out.hn.trans (zl_length _)
          rw [h1, HM1.out]
          exact hlt
end Go.Proofs.Ythpcneeidhmdkaa
