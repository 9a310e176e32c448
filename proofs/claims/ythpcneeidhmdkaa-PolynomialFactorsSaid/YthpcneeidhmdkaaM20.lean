import Derived.Test.YthpcneeidhmdkaaM19
namespace Go.Proofs.Ythpcneeidhmdkaa
open Go.RowKit
set_option linter.unusedVariables false
/-! the reference: DivMod -/
theorem rfinv_any (C S P x : Nat) (w : World) (hs : (S : Int) ≤ 9223372036854775807) (hp : (P : Int) ≤ 9223372036854775807) (hv : VF C S P) (hx : x < S) (h0 : x ≠ 0) :
    Calls Try.prog 66 #[fldv C S P, .int .i64 x] w fun e w' => e = .returned (.tuple #[.int .i64 ((finvN S P x : Nat) : Int), .int .i64 0]) ∧ Below w.heap.size w w' := by
  refine (rInv_any C S P x w hs hp).mono ?_
  rintro e w1 ⟨rfl, hb⟩
  refine ⟨?_, hb⟩
  have e1 : invR C S P x = (((finvN S P x : Nat) : Int), 0) := by
    unfold invR
    rw [ok1_of hv hx, if_pos rfl, if_neg (by omega)]
    rfl
  rw [e1]
theorem qL_getD (s p : Nat) (a b : List Nat) (M n0 : Nat) (hM : M ≤ n0) : ∀ k, k ≤ M → ∀ j, (qL s p a b M n0 k).getD j 0 = (qL s p a b M M k).getD j 0 := by
  intro k
  induction k with
  | zero =>
    intro _ j
    show (List.replicate n0 0).getD j 0 = (List.replicate M 0).getD j 0
    by_cases h1 : j < n0 <;> by_cases h2 : j < M <;> simp [List.getD, h1, h2]
  | succ k ih =>
    intro hk j
    have ih := ih (by omega) j
    show ((qL s p a b M n0 k).set (M - 1 - k) _).getD j 0 = ((qL s p a b M M k).set (M - 1 - k) _).getD j 0
    by_cases e : M - 1 - k = j
    · subst e
      simp only [List.getD]
      rw [List.getElem?_set_self (by rw [qL_length]; omega), List.getElem?_set_self (by rw [qL_length]; omega)]
    · simp only [List.getD]
      rw [List.getElem?_set_ne e, List.getElem?_set_ne e]
      simpa [List.getD] using ih
theorem qL_trim {c s p : Nat} (h : VF c s p) {a b : List Nat} (ha : LtAll s a) (hb : LtAll s b) (ta : Trimmed a) (hb1 : 1 ≤ b.length) (hb0 : b.getD (b.length - 1) 0 ≠ 0) : trimL (qL s p a b (divM a b) a.length (divM a b)) = divQ s p a b := by
  refine trimmed_ext (trimL_trimmed _) (divQ_trimmed h ha hb ta hb1 hb0) fun i => ?_
  rw [trimL_getD, qL_getD s p a b (divM a b) a.length (by unfold divM; omega) _ (Nat.le_refl _)]
  rfl
/-- what the reference's DivMod holds -/
abbrev DvR (w wr : World) (C S P g q : Nat) (r qs : List Nat) : Prop := DivR w wr (fldC C S P) g q r qs
set_option maxRecDepth 100000 in
set_option maxHeartbeats 4000000 in
theorem rDivMod_some (C S P : Nat) (a b : List Nat) (A B : Option Addr) (n ca m cb : Nat) (w : World) (hs : (S : Int) ≤ 9223372036854775807) (hp : (P : Int) ≤ 9223372036854775807) (hv : VF C S P) (hla : LtAll S a) (hlb : LtAll S b) (hta : Trimmed a) (hna : a.length ≤ 4097) (hnb : b.length ≤ 4097)
    (hVA : pvB C S P (zl a) = true) (hVB : pvB C S P (zl b) = true) (hb1 : 1 ≤ m) (hM : m ≤ n) (hb0 : b.getD (b.length - 1) 0 ≠ 0)
    (hq : (⟨A, n, ca, zl a⟩ : Sl).R w) (hr : (⟨B, m, cb, zl b⟩ : Sl).R w) :
    Calls Try.prog 23 #[fldv C S P, .slice A n ca, .slice B m cb] w (RetD w (zl (divQ S P a b), zl (divRest S P a b), 0)) := by
  obtain ⟨i0, hi, hz0, hz1, hz2⟩ := info_parts intInfo
  have hnn : n = a.length := hq.hn.trans (zl_length a)
  have hmm : m = b.length := hr.hn.trans (zl_length b)
  obtain ⟨M, hMe⟩ : ∃ M, M = divM a b := ⟨_, rfl⟩
  obtain ⟨tp, htp⟩ : ∃ tp, tp = m - 1 := ⟨_, rfl⟩
  have hMe2 : M = n - (m - 1) := by rw [hMe, hnn, hmm]; rfl
  have hmk := run_make_row' (P := Try.prog) 24 3 (.int .i64 0) 8 Try.underlying24 intInfo rfl .i64 .i64 n (by omega) (by omega)
  have hbx : Below w.heap.size w (w.alloc (fldB C S P)) := (Below.refl _ _).alloc (Nat.le_refl _) _
  have HQ := Lib.hid (hq.below hbx)
  have HR := Lib.hid (hr.below hbx)
  have CB : Hid (CellsAt (w.alloc (fldB C S P)) w.heap.size (fldC C S P)) := CellsAt.new _ _ _ _ rfl
  have HVA := Lib.hid hVA
  have HVB := Lib.hid hVB
  have HV := Lib.hid hv
  have HLB := Lib.hid hlb
  have HDQ : Hid (trimL (qL S P a b M n M) = divQ S P a b) := by show _ = _; rw [hMe, hnn]; exact qL_trim hv hla hlb hta (by omega) hb0
  have HDR : Hid (divRest S P a b = trimL (rL S P a b M M)) := by show _ = _; rw [hMe]; rfl
  have HRS : Hid (∀ k, rL S P a b M (k + 1) = subRow S P (cL S P a b M k) b (rL S P a b M k) (M - 1 - k) m) := fun k => by rw [hmm]; rfl
  have HCS : Hid (∀ k, cL S P a b M k = fmulN S P ((rL S P a b M k).getD (M - 1 - k + tp) 0) (finvN S P (b.getD tp 0))) := fun k => by rw [htp, hmm]; rfl
  have HQS : Hid (∀ k, qL S P a b M n (k + 1) = (qL S P a b M n k).set (M - 1 - k) (cL S P a b M k)) := fun k => rfl
  have HQZ : Hid (qL S P a b M n 0 = List.replicate n 0) := rfl
  have HLR : Hid (∀ k, LtAll S (rL S P a b M k)) := fun k => rL_lt hv hla _ _
  have HRLEN : Hid (∀ k, (rL S P a b M k).length = n) := fun k => (rL_length _ _ _ _ _ _).trans hnn.symm
  have HQLEN : Hid (∀ k, (qL S P a b M n k).length = n) := fun k => qL_length _ _ _ _ _ _ _
  have HZ : Hid (n = (zl a).length) := hnn.trans (zl_length a).symm
  have HB0 : Hid (b.getD tp 0 ≠ 0) := by rw [htp, hmm]; exact hb0
  have HBT : Hid (b.getD tp 0 < S) := hlb tp
  have HM := Lib.hid hmm
  have hs1 : ((m : Int) - 1) = (tp : Int) := by omega
  have z2 : ((m : Int) == 0) = false := by rw [beq_eq_false_iff_ne]; omega
  have hM1 : 1 ≤ M := by omega
  have hMt : M + tp ≤ n := by omega
  have hMt2 : n ≤ M + tp := by omega
  have htm : tp < m := by omega
  have htm2 : m ≤ tp + 1 := by omega
  have hn7 : n ≤ 4097 := by omega
  have hm7 : m ≤ 4097 := by omega
  obtain ⟨bd, rfl, hbdw, hcb⟩ := hr.rd (by rw [zl_length, ← hmm]; omega)
  have HBC : Hid (∀ W, Abv w W → ∀ t, t < m → W.cell? (bd.add t) = some (.int .i64 ((b.getD t 0 : Nat) : Int))) := by
    show ∀ W, _
    intro W hW t ht
    rw [hW.cell (by rw [block_of_add]; exact hbdw), hcb t (by rw [zl_length, ← hmm]; omega), zl_getD]
  clear hq hr hbx hv hla hlb hta hna hnb hVA hVB hb0 hMe hMe2 htp hnn hmm hbdw hcb
  go_enter Try.func23, Try.ntmps23
  go_wp2_with fail
  refine (rpValid_n C S P A n ca (zl a) _ hs hp HQ.out).mono ?_
  rintro e w1 ⟨rfl, hb1⟩
  rw [HVA.out]
  have HB1 := Lib.hid hb1
  clear hb1
  obtain ⟨f0, f1, f2⟩ := fldC_cells (CB.out.below HB1.out)
  go_wp2_with fail
  refine (rpValid_n C S P (some bd) m cb (zl b) _ hs hp (HR.out.below HB1.out)).mono ?_
  rintro e w2 ⟨rfl, hb2⟩
  rw [HVB.out]
  have HB2 := Lib.hid (bwStep HB1.out hb2)
  clear hb2 f0 f1 f2
  go_wp2_with fail
  clear HB1
  have CFA : Hid (∀ W, Abv w2 W → (W.cell? ⟨w.heap.size, 0, none⟩ = some (.int .i64 C) ∧ W.cell? ⟨w.heap.size, 1, none⟩ = some (.int .i64 S) ∧ W.cell? ⟨w.heap.size, 2, none⟩ = some (.int .i64 P)) ∧ W.cell? (bd.add tp) = some (.int .i64 ((b.getD tp 0 : Nat) : Int))) := by
    show ∀ W, _
    intro W hW
    exact ⟨fldC_cells (CB.out.below (bwStep HB2.out hW)), HBC.out W (bw1 (bwStep HB2.out hW)) tp htm⟩
  generalize hbe : b.getD tp 0 = bt at *
  have HBE := Lib.hid hbe
  clear hbe
  have HD0 : Hid (Abv w2 w2.drew) := bwDrew (Below.refl _ _)
  refine wp_region_W (S := Abv w2) [(false, 0), (false, 1), (false, 2), (false, 3), (false, 4), (true, 5), (false, 6), (false, 7), (false, 8), (false, 9), (false, 10)] (by kernel_rfl) (by kernel_rfl) HD0.out ?_
  simp only [attachW, List.getElem?_cons_zero, List.getElem?_cons_succ]
  repeat
    refine' wpHX_val rfl (fun W hW => ?_) ?_
    rotate_left
    · have hcf := CFA.out W hW; go_simp; rfl
    simp only [Act.put, List.setIfInBounds_toArray, List.set_cons_zero, List.set_cons_succ]
  refine' wpHX_acall rfl (fun W => ?_) ?_
  rotate_left 2
  · go_simp; exact ⟨rfl, rfl⟩
  refine (rfinv_any C S P bt _ hs hp HV.out HBT.out HB0.out).mono ?_
  rintro e w3 ⟨rfl, hb3⟩
  have HB3 : Hid (Abv w2 w3) := bwStep HD0.out hb3
  clear hb3
  refine ⟨_, rfl, HB3.out, ?_⟩
  simp only [Act.put, List.setIfInBounds_toArray, List.set_cons_zero, List.set_cons_succ]
  repeat
    refine' wpHX_val rfl (fun W hW => ?_) ?_
    rotate_left
    · have hcf := CFA.out W hW; go_simp; rfl
    simp only [Act.put, List.setIfInBounds_toArray, List.set_cons_zero, List.set_cons_succ]
  refine wpHX_nil ?_
  have HQ3 : Hid (RD w3 A (zl a)) := ((HQ.out.below HB2.out).below HB3.out).rd
  have HX3 : Hid (CellsAt w3 w.heap.size (fldC C S P)) := (CB.out.below HB2.out).below HB3.out
  have HW3 : Hid (Below w.heap.size w w3) := bw1 (bwStep HB2.out HB3.out)
  have HA3 : Hid (Abv (w.alloc (fldB C S P)) w3) := bwStep HB2.out HB3.out
  clear HB2 HB3 CFA HD0 HQ
  go_wp2_with (at_builtin; refine wpList_append_read rfl _ _ _ rfl w3.heap.size 3 i0 _ Try.underlying24 hi hz0 hz1 hz2 rfl (.slice (some ⟨w3.heap.size, 0, none⟩) 0 0) 0 [] rfl (World.ownsRow_made w3 #[] 0 (Nat.le_refl _) (by simp [maxLen]) rfl) A n _ (zl a) rfl HZ.out (HQ3.out.alloc _) (by omega) (by simp) ?_; intro v4 w4 hown hg hat; have HB4 : Hid (Abv w3 w4) := ((Below.refl _ _).alloc (Nat.le_refl _) _).grown hg (by simp) (fun j hj => by cases hj; exact Nat.le_refl _); obtain ⟨g, c1, rfl, hg1, hc1, hc2, hrow⟩ := own_row (l := a) (n := n) (by simpa using hown) (by omega); have HROW := Lib.hid hrow; clear hown hg hat hrow)
  clear hs1
  have HS0 : Hid (DivR w (w4.alloc (.cells (madeCells #[Value.int .i64 0] n) 3)) (fldC C S P) g w4.heap.size a (List.replicate n 0)) := by
    have h3 := HA3.out.size
    have h4 := HB4.out.size
    simp at h3
    exact ⟨bwAlloc (bwStep HW3.out HB4.out) _, (HX3.out.below HB4.out).alloc _, HROW.out.below ((Below.refl _ _).alloc (Nat.le_refl _) _), RowAt.made _ _ _ _ rfl, by omega, by omega, Nat.ne_of_lt HROW.out.1⟩
  rw [← HQZ.out] at HS0
  clear hmk
  generalize w4.alloc (.cells (madeCells #[Value.int .i64 0] n) 3) = w5 at *
  generalize w4.heap.size = q at *
  go_loopw [14] (fun iv wr => ∃ (k : Nat) (j : Int), k ≤ M ∧ iv = .int .i64 j ∧ Hid (j = (M : Int) - 1 - k + tp) ∧ Hid (DivR w wr (fldC C S P) g q (rL S P a b M k) (qL S P a b M n k))) (fun iv _ => (intOf iv + 1).toNat)
  case atStart => exact ⟨0, _, Nat.zero_le _, rfl, by show _ = _; omega, HS0⟩
  case round =>
    obtain ⟨k, j, hk, rfl, hj, hD⟩ := hrel
    obtain ⟨f0, f1, f2⟩ := fldC_cells hD.out.X
    by_cases hlt1 : k < M
    · obtain ⟨i, hi1⟩ : ∃ i, i = M - 1 - k := ⟨_, rfl⟩
      obtain ⟨I, hI⟩ : ∃ I, I = i + tp := ⟨_, rfl⟩
      have hiM : i < M := by omega
      have hIn : I < n := by omega
      have htI : tp ≤ I := by omega
      obtain rfl : j = (I : Int) := by have := hj.out; omega
      have hsub : ((I : Int) - (tp : Int)) = (i : Int) := by omega
      have hHR := HRS.out k
      have hHQ := HQS.out k
      have hHC := HCS.out k
      rw [← hi1] at hHR hHQ hHC
      rw [← hI] at hHC
      have hRc := hD.out.R.2 I (by rw [HRLEN.out]; omega)
      have hQc := hD.out.Q.2 i (by rw [HQLEN.out]; omega)
      have HU : Hid ((rL S P a b M k).getD I 0 < S) := HLR.out k _
      have HLRk := Lib.hid (HLR.out k)
      have HRkn := Lib.hid (HRLEN.out k)
      generalize hRk : rL S P a b M k = Rk at *
      generalize hQk : qL S P a b M n k = Qk at *
      generalize hCk : cL S P a b M k = ck at *
      generalize hue : Rk.getD I 0 = u at *
      generalize hqe : Qk.getD i 0 = qi at *
      have CF : Hid (∀ W, Abv wr W → ((W.cell? ⟨w.heap.size, 0, none⟩ = some (.int .i64 C) ∧ W.cell? ⟨w.heap.size, 1, none⟩ = some (.int .i64 S) ∧ W.cell? ⟨w.heap.size, 2, none⟩ = some (.int .i64 P)) ∧ W.cell? ⟨g, I, none⟩ = some (.int .i64 (u : Int))) ∧ W.cell? ⟨q, i, none⟩ = some (.int .i64 (qi : Int)) ∧ W.frozen? ⟨q, i, none⟩ = false) := by
        show ∀ W, _
        intro W hW
        exact ⟨⟨fldC_cells (hD.out.X.below hW), (hW.cell hD.out.R.1).trans hRc.1⟩, (hW.cell hD.out.Q.1).trans hQc.1, (hW.frozen hD.out.Q.1).trans hQc.2⟩
      have HRE := Lib.hid hHR
      have HQE := Lib.hid hHQ
      have HCE := Lib.hid hHC
      have HIE := Lib.hid hi1
      have HII := Lib.hid hI
      clear hHR hHQ hHC hRc hQc hRk hQk hCk hue hqe hi1 hI
      go_wp2
      refine wp_region_S (S := Abv wr) 7 (by kernel_rfl) (by kernel_rfl) (bwDrew (Below.refl _ _)) ?_
      simp only [List.take_succ_cons, List.take_zero, List.drop_succ_cons, List.drop_zero]
      repeat
        refine' wpHS_val rfl (fun W hW => ?_) ?_
        rotate_left
        · have hcf := CF.out W hW; go_simp; rfl
        simp only [Act.put, List.setIfInBounds_toArray, List.set_cons_zero, List.set_cons_succ]
      refine' wpHS_call rfl (fun W => ?_) (fun W hW => ?_) ?_
      rotate_left 3
      · go_simp; exact ⟨rfl, rfl⟩
      · exact (rftimes_any C S P u (finvN S P bt) W HV.out HU.out (invN_lt HV.out)).mono (fun e W1 h => ⟨h.1, bwStep hW h.2⟩)
      simp only [Act.put, List.setIfInBounds_toArray, List.set_cons_zero, List.set_cons_succ]
      refine wpHS_nil ?_
      intro w2 hb1
      have HB2 := Lib.hid hb1
      clear hb1
      rw [← HCE.out]
      have HCK : Hid (ck < S) := by rw [HCE.out]; exact fmul_lt HV.out _ _
      obtain ⟨-, st1, st2⟩ := CF.out w2 HB2.out
      have HD2 : Hid (DivR w (w2.setCell ⟨q, i, none⟩ (.int .i64 (ck : Int))) (fldC C S P) g q Rk (qL S P a b M n (k + 1))) := by
        rw [HQE.out]; exact (hD.out.below HB2.out).setQ i ck
      have HSB : Hid (∀ x, subRow S P ck b Rk i (x + 1) = (subRow S P ck b Rk i x).set (i + x) (fsubN S P ((subRow S P ck b Rk i x).getD (i + x) 0) (fmulN S P ck (b.getD x 0)))) := fun x => rfl
      have HSL : Hid (∀ x, LtAll S (subRow S P ck b Rk i x)) := fun x => subRow_lt HV.out HLRk.out i x
      have HSN : Hid (∀ x, (subRow S P ck b Rk i x).length = n) := fun x => (subRow_length _ _ _ _ _ _ _).trans HRkn.out
      go_wp2
      clear st1 st2 f0 f1 f2
      generalize w2.setCell ⟨q, i, none⟩ (.int .i64 (ck : Int)) = wo at *
      go_loopw [16] (fun t wr => ∃ x : Nat, x ≤ m ∧ t = .int .i64 x ∧ Hid (DivR w wr (fldC C S P) g q (subRow S P ck b Rk i x) (qL S P a b M n (k + 1)))) (fun t _ => m - (intOf t).toNat)
      case atStart => exact ⟨0, Nat.zero_le _, rfl, HD2⟩
      case round =>
        obtain ⟨x, hx, rfl, hE⟩ := hrel
        obtain ⟨f0, f1, f2⟩ := fldC_cells hE.out.X
        by_cases hlt2 : x < m
        · have hxt : decide ((x : Int) ≤ (tp : Int)) = true := by simp; omega
          have hSx := HSB.out x
          have HY : Hid (b.getD x 0 < S) := HLB.out x
          have HU2 : Hid ((subRow S P ck b Rk i x).getD (i + x) 0 < S) := HSL.out x _
          have hEc := hE.out.R.2 (i + x) (by rw [HSN.out]; omega)
          have HBX : Hid (∀ W, Abv w W → W.cell? (bd.add x) = some (.int .i64 ((b.getD x 0 : Nat) : Int))) := fun W hW => HBC.out W hW x hlt2
          generalize hye : b.getD x 0 = y at *
          generalize hue : (subRow S P ck b Rk i x).getD (i + x) 0 = u2 at *
          have HSX := Lib.hid hSx
          have CF2 : Hid (∀ W, Abv wr W → (W.cell? ⟨w.heap.size, 0, none⟩ = some (.int .i64 C) ∧ W.cell? ⟨w.heap.size, 1, none⟩ = some (.int .i64 S) ∧ W.cell? ⟨w.heap.size, 2, none⟩ = some (.int .i64 P)) ∧ W.cell? (bd.add x) = some (.int .i64 (y : Int)) ∧ W.cell? ⟨g, i + x, none⟩ = some (.int .i64 (u2 : Int)) ∧ W.frozen? ⟨g, i + x, none⟩ = false) := by
            show ∀ W, _
            intro W hW
            exact ⟨fldC_cells (hE.out.X.below hW), HBX.out W (bwStep hE.out.B hW), (hW.cell hE.out.R.1).trans hEc.1, (hW.frozen hE.out.R.1).trans hEc.2⟩
          clear hye hue hEc hSx
          have hj1 : (0 : Int) ≤ (i : Int) + x := by omega
          have hj2 : (i : Int) + x < (n : Int) := by omega
          have hto : ((i : Int) + x).toNat = i + x := by omega
          have hwr : IntKind.i64.wrap ((i : Int) + x) = (i : Int) + x := wr64 _ (by omega) (by omega)
          have hwi : IntKind.i64.wrap (i : Int) = (i : Int) := wr64 _ (by omega) (by omega)
          go_wp2
          refine wp_region_S (S := Abv wr) 24 (by kernel_rfl) (by kernel_rfl) (bwDrew (Below.refl _ _)) ?_
          simp only [List.take_succ_cons, List.take_zero, List.drop_succ_cons, List.drop_zero]
          repeat
            refine' wpHS_val rfl (fun W hW => ?_) ?_
            rotate_left
            · have hcf := CF2.out W hW; go_simp; rfl
            simp only [Act.put, List.setIfInBounds_toArray, List.set_cons_zero, List.set_cons_succ]
          refine' wpHS_call rfl (fun W => ?_) (fun W hW => ?_) ?_
          rotate_left 3
          · go_simp; exact ⟨rfl, rfl⟩
          · exact (rftimes_any C S P ck y W HV.out HCK.out HY.out).mono (fun e W1 h => ⟨h.1, bwStep hW h.2⟩)
          simp only [Act.put, List.setIfInBounds_toArray, List.set_cons_zero, List.set_cons_succ]
          refine' wpHS_call rfl (fun W => ?_) (fun W hW => ?_) ?_
          rotate_left 3
          · go_simp; exact ⟨rfl, rfl⟩
          · exact (rfless_any C S P u2 (fmulN S P ck y) W HV.out HU2.out (fmul_lt HV.out _ _)).mono (fun e W1 h => ⟨h.1, bwStep hW h.2⟩)
          simp only [Act.put, List.setIfInBounds_toArray, List.set_cons_zero, List.set_cons_succ]
          repeat
            refine' wpHS_val rfl (fun W hW => ?_) ?_
            rotate_left
            · have hcf := CF2.out W hW; go_simp; rfl
            simp only [Act.put, List.setIfInBounds_toArray, List.set_cons_zero, List.set_cons_succ]
          refine wpHS_nil ?_
          intro w3 hb1
          have HB3 := Lib.hid hb1
          clear hb1
          obtain ⟨-, -, st1, st2⟩ := CF2.out w3 HB3.out
          go_wp2
          clear hwr
          exact ⟨⟨x + 1, by omega, by go_num, by rw [HSX.out]; exact (hE.out.below HB3.out).setR _ _⟩, by simp [intOf]; omega⟩
        · obtain rfl : x = m := by omega
          have hxt : decide ((x : Int) ≤ (tp : Int)) = false := by simp; omega
          go_wp2
          exact ⟨⟨k + 1, _, by omega, rfl, by have := HIE.out; have := HII.out; show _ = _; omega, by rw [HRE.out]; exact hE⟩, by simp [intOf]⟩
    · obtain rfl : k = M := by omega
      have hj0 : decide ((tp : Int) ≤ j) = false := by have := hj.out; simp; omega
      go_wp2_with (first
        | (go_at_call 47; ((with_reducible refine (rTrim_n (qL S P a b k n k) n (HQLEN.out k).symm (some ⟨q, 0, none⟩) n _ (by omega) (Nat.le_refl _) hD.out.Q.rd).mono ?_); rintro e w2 ⟨v2, rfl, hI2, hb2⟩; have HI2 := Lib.hid hI2; have HB2 := Lib.hid hb2; clear hI2 hb2))
        | (go_at_call 47; refine (rTrim_n (rL S P a b k k) n (HRLEN.out k).symm _ _ _ (by omega) hc1 (hD.out.R.rd.below HB2.out)).mono ?_; rintro e w3 ⟨v3, rfl, hI3, hb3⟩; have HI3 := Lib.hid hI3; have HB3 := Lib.hid hb3; have HJ2 := Lib.hid (HI2.out.below hb3); clear hI3 hb3))
      go_ret3
      refine RetD.mk (L := zl (divQ S P a b)) (M := zl (divRest S P a b)) rfl ?_ ?_ (bwStep hD.out.B (bwStep HB2.out HB3.out))
      · rw [← HDQ.out]; exact HJ2.out
      · rw [HDR.out]; exact HI3.out
end Go.Proofs.Ythpcneeidhmdkaa
namespace Go.Proofs.Ythpcneeidhmdkaa
open Go.RowKit
set_option linter.unusedVariables false
/-! the reference: DivMod, Monic and GCD -/
set_option maxRecDepth 100000 in
set_option maxHeartbeats 4000000 in
theorem rDivMod_none (C S P : Nat) (a b : List Nat) (A B : Option Addr) (n ca m cb : Nat) (w : World) (hs : (S : Int) ≤ 9223372036854775807) (hp : (P : Int) ≤ 9223372036854775807) (hv : VF C S P) (hla : LtAll S a) (hlb : LtAll S b) (hta : Trimmed a) (hna : a.length ≤ 4097) (hnb : b.length ≤ 4097)
    (hVA : pvB C S P (zl a) = true) (hVB : pvB C S P (zl b) = true) (hb1 : 1 ≤ m) (hM : n < m) (hb0 : b.getD (b.length - 1) 0 ≠ 0)
    (hq : (⟨A, n, ca, zl a⟩ : Sl).R w) (hr : (⟨B, m, cb, zl b⟩ : Sl).R w) :
    Calls Try.prog 23 #[fldv C S P, .slice A n ca, .slice B m cb] w (RetD w (zl (divQ S P a b), zl (divRest S P a b), 0)) := by
  obtain ⟨i0, hi, hz0, hz1, hz2⟩ := info_parts intInfo
  have hnn : n = a.length := hq.hn.trans (zl_length a)
  have hmm : m = b.length := hr.hn.trans (zl_length b)
  obtain ⟨tp, htp⟩ : ∃ tp, tp = m - 1 := ⟨_, rfl⟩
  have hM0 : divM a b = 0 := by unfold divM; omega
  have hmk := run_make_row' (P := Try.prog) 24 3 (.int .i64 0) 8 Try.underlying24 intInfo rfl .i64 .i64 n (by omega) (by omega)
  have hbx : Below w.heap.size w (w.alloc (fldB C S P)) := (Below.refl _ _).alloc (Nat.le_refl _) _
  have HQ := Lib.hid (hq.below hbx)
  have HR := Lib.hid (hr.below hbx)
  have CB : Hid (CellsAt (w.alloc (fldB C S P)) w.heap.size (fldC C S P)) := CellsAt.new _ _ _ _ rfl
  have HVA := Lib.hid hVA
  have HVB := Lib.hid hVB
  have HV := Lib.hid hv
  have HDQ : Hid (trimL (List.replicate n 0) = divQ S P a b) := by
    show _ = _
    rw [hnn, ← qL_trim hv hla hlb hta (by omega) hb0, hM0]; rfl
  have HDR : Hid (divRest S P a b = trimL a) := by show _ = _; unfold divRest; rw [hM0]; rfl
  have HZ : Hid (n = (zl a).length) := hnn.trans (zl_length a).symm
  have HN := Lib.hid hnn
  have HB0 : Hid (b.getD tp 0 ≠ 0) := by rw [htp, hmm]; exact hb0
  have HBT : Hid (b.getD tp 0 < S) := hlb tp
  have hs1 : ((m : Int) - 1) = (tp : Int) := by omega
  have z2 : ((m : Int) == 0) = false := by rw [beq_eq_false_iff_ne]; omega
  have htm : tp < m := by omega
  have hnt : n ≤ tp := by omega
  have hn7 : n ≤ 4097 := by omega
  have hm7 : m ≤ 4097 := by omega
  obtain ⟨bd, rfl, hbdw, hcb⟩ := hr.rd (by rw [zl_length, ← hmm]; omega)
  have HBC : Hid (∀ W, Abv w W → W.cell? (bd.add tp) = some (.int .i64 ((b.getD tp 0 : Nat) : Int))) := by
    show ∀ W, _
    intro W hW
    rw [hW.cell (by rw [block_of_add]; exact hbdw), hcb tp (by rw [zl_length, ← hmm]; omega), zl_getD]
  clear hq hr hbx hv hla hlb hta hna hnb hVA hVB hb0 htp hnn hmm hbdw hcb hM0
  go_enter Try.func23, Try.ntmps23
  go_wp2_with fail
  refine (rpValid_n C S P A n ca (zl a) _ hs hp HQ.out).mono ?_
  rintro e w1 ⟨rfl, hb1⟩
  rw [HVA.out]
  have HB1 := Lib.hid hb1
  clear hb1
  obtain ⟨f0, f1, f2⟩ := fldC_cells (CB.out.below HB1.out)
  go_wp2_with fail
  refine (rpValid_n C S P (some bd) m cb (zl b) _ hs hp (HR.out.below HB1.out)).mono ?_
  rintro e w2 ⟨rfl, hb2⟩
  rw [HVB.out]
  have HB2 := Lib.hid (bwStep HB1.out hb2)
  clear hb2 f0 f1 f2
  go_wp2_with fail
  clear HB1
  have CFA : Hid (∀ W, Abv w2 W → (W.cell? ⟨w.heap.size, 0, none⟩ = some (.int .i64 C) ∧ W.cell? ⟨w.heap.size, 1, none⟩ = some (.int .i64 S) ∧ W.cell? ⟨w.heap.size, 2, none⟩ = some (.int .i64 P)) ∧ W.cell? (bd.add tp) = some (.int .i64 ((b.getD tp 0 : Nat) : Int))) := by
    show ∀ W, _
    intro W hW
    exact ⟨fldC_cells (CB.out.below (bwStep HB2.out hW)), HBC.out W (bw1 (bwStep HB2.out hW))⟩
  generalize b.getD tp 0 = bt at *
  have HD0 : Hid (Abv w2 w2.drew) := bwDrew (Below.refl _ _)
  refine wp_region_W (S := Abv w2) [(false, 0), (false, 1), (false, 2), (false, 3), (false, 4), (true, 5), (false, 6), (false, 7), (false, 8), (false, 9), (false, 10)] (by kernel_rfl) (by kernel_rfl) HD0.out ?_
  simp only [attachW, List.getElem?_cons_zero, List.getElem?_cons_succ]
  repeat
    refine' wpHX_val rfl (fun W hW => ?_) ?_
    rotate_left
    · have hcf := CFA.out W hW; go_simp; rfl
    simp only [Act.put, List.setIfInBounds_toArray, List.set_cons_zero, List.set_cons_succ]
  refine' wpHX_acall rfl (fun W => ?_) ?_
  rotate_left 2
  · go_simp; exact ⟨rfl, rfl⟩
  refine (rfinv_any C S P bt _ hs hp HV.out HBT.out HB0.out).mono ?_
  rintro e w3 ⟨rfl, hb3⟩
  have HB3 : Hid (Abv w2 w3) := bwStep HD0.out hb3
  clear hb3
  refine ⟨_, rfl, HB3.out, ?_⟩
  simp only [Act.put, List.setIfInBounds_toArray, List.set_cons_zero, List.set_cons_succ]
  repeat
    refine' wpHX_val rfl (fun W hW => ?_) ?_
    rotate_left
    · have hcf := CFA.out W hW; go_simp; rfl
    simp only [Act.put, List.setIfInBounds_toArray, List.set_cons_zero, List.set_cons_succ]
  refine wpHX_nil ?_
  have HQ3 : Hid (RD w3 A (zl a)) := ((HQ.out.below HB2.out).below HB3.out).rd
  have HW3 : Hid (Below w.heap.size w w3) := bw1 (bwStep HB2.out HB3.out)
  clear HB2 HB3 CFA HD0 HQ
  go_wp2_with (at_builtin; refine wpList_append_read rfl _ _ _ rfl w3.heap.size 3 i0 _ Try.underlying24 hi hz0 hz1 hz2 rfl (.slice (some ⟨w3.heap.size, 0, none⟩) 0 0) 0 [] rfl (World.ownsRow_made w3 #[] 0 (Nat.le_refl _) (by simp [maxLen]) rfl) A n _ (zl a) rfl HZ.out (HQ3.out.alloc _) (by omega) (by simp) ?_; intro v4 w4 hown hg hat; have HB4 : Hid (Abv w3 w4) := ((Below.refl _ _).alloc (Nat.le_refl _) _).grown hg (by simp) (fun j hj => by cases hj; exact Nat.le_refl _); obtain ⟨A1, c1, rfl, hc1, hc2, hrd⟩ := own_any (l := a) (n := n) (by simpa using hown); have HRD := Lib.hid hrd; clear hown hg hat hrd)
  clear hs1 hmk
  have HW5 : Hid (Below w.heap.size w (w4.alloc (.cells (madeCells #[Value.int .i64 0] n) 3))) := bwAlloc (bwStep HW3.out HB4.out) _
  have HR5 : Hid (RD (w4.alloc (.cells (madeCells #[Value.int .i64 0] n) 3)) A1 (zl a)) := HRD.out.alloc _
  have HO5 : Hid (RowAt (w4.alloc (.cells (madeCells #[Value.int .i64 0] n) 3)) w4.heap.size (List.replicate n 0)) := RowAt.made _ _ _ _ rfl
  generalize w4.alloc (.cells (madeCells #[Value.int .i64 0] n) 3) = w5 at *
  generalize w4.heap.size = q at *
  go_loopw [14] (fun iv wr => ∃ j : Int, iv = .int .i64 j ∧ Hid (j < tp) ∧ Hid (wr = w5)) (fun _ _ => 0)
  case atStart => exact ⟨_, rfl, by show _ < _; omega, rfl⟩
  case round =>
    obtain ⟨j, rfl, hj, hw⟩ := hrel
    obtain rfl := hw.out
    have hj0 : decide ((tp : Int) ≤ j) = false := by have := hj.out; simp; omega
    go_wp2_with (first
      | (go_at_call 47; ((with_reducible refine (rTrim_n (List.replicate n 0) n (by simp) (some ⟨q, 0, none⟩) n _ (by omega) (Nat.le_refl _) HO5.out.rd).mono ?_); rintro e w2 ⟨v2, rfl, hI2, hb2⟩; have HI2 := Lib.hid hI2; have HB2 := Lib.hid hb2; clear hI2 hb2))
      | (go_at_call 47; refine (rTrim_n a n HN.out A1 c1 _ (by omega) hc1 (HR5.out.below HB2.out)).mono ?_; rintro e w3 ⟨v3, rfl, hI3, hb3⟩; have HI3 := Lib.hid hI3; have HB3 := Lib.hid hb3; have HJ2 := Lib.hid (HI2.out.below hb3); clear hI3 hb3))
    go_ret3
    refine RetD.mk (L := zl (divQ S P a b)) (M := zl (divRest S P a b)) rfl ?_ ?_ (bwStep HW5.out (bwStep HB2.out HB3.out))
    · rw [← HDQ.out]; exact HJ2.out
    · rw [HDR.out]; exact HI3.out
set_option maxHeartbeats 4000000 in
theorem rDivMod_any (c s p : Int) (q r : Sl) (w : World) (hs : s ≤ 9223372036854775807) (hp : p ≤ 9223372036854775807) (hq : q.R w) (hr : r.R w) :
    Calls Try.prog 23 #[fldv c s p, q.v, r.v] w (RetD w (divRes c s p q.xs r.xs)) := by
  obtain ⟨A, n, ca, xs⟩ := q
  obtain ⟨B, m, cb, ys⟩ := r
  have hbx : Below w.heap.size w (w.alloc (fldB c s p)) := (Below.refl _ _).alloc (Nat.le_refl _) _
  have HQ := Lib.hid (hq.below hbx)
  have HR := Lib.hid (hr.below hbx)
  show Calls Try.prog 23 #[fldv c s p, .slice A n ca, .slice B m cb] w (RetD w (divRes c s p xs ys))
  have CB : Hid (CellsAt (w.alloc (fldB c s p)) w.heap.size (fldC c s p)) := CellsAt.new _ _ _ _ rfl
  cases hV : (pvB c s p xs && pvB c s p ys) with
  | false =>
    have HF : Hid (divRes c s p xs ys = ([], [], 1)) := by show _ = _; unfold divRes; rw [hV]; rfl
    rcases pvB_false hV with h1 | ⟨h1, h2⟩
    · have H1 := Lib.hid h1
      clear hV h1 hq hr hbx
      go_enter Try.func23, Try.ntmps23
      go_wp2_with (go_at_call 46; refine (rpValid_n c s p A n ca xs _ hs hp HQ.out).mono ?_; rintro e w1 ⟨rfl, hb1⟩; rw [H1.out]; have HB1 := Lib.hid hb1; clear hb1)
      go_ret3
      exact RetD.mk HF.out (Ints.nil_ _) (Ints.nil_ _) (bw1 HB1.out)
    · have H1 := Lib.hid h1
      have H2 := Lib.hid h2
      clear hV h1 h2 hq hr hbx
      go_enter Try.func23, Try.ntmps23
      go_wp2_with fail
      refine (rpValid_n c s p A n ca xs _ hs hp HQ.out).mono ?_
      rintro e w1 ⟨rfl, hb1⟩
      rw [H1.out]
      have HB1 := Lib.hid hb1
      clear hb1
      obtain ⟨f0, f1, f2⟩ := fldC_cells (CB.out.below HB1.out)
      go_wp2_with fail
      refine (rpValid_n c s p B m cb ys _ hs hp (HR.out.below HB1.out)).mono ?_
      rintro e w2 ⟨rfl, hb2⟩
      rw [H2.out]
      have HB2 := Lib.hid (bwStep HB1.out hb2)
      clear hb2 f0 f1 f2
      go_wp2
      go_ret3
      exact RetD.mk HF.out (Ints.nil_ _) (Ints.nil_ _) (bw1 HB2.out)
  | true =>
    have hV' := hV
    rw [Bool.and_eq_true] at hV'
    obtain ⟨C, S, P, a, rfl, rfl, rfl, rfl, hv, hla, hta, hna⟩ := pvB_nat hV'.1
    obtain ⟨C', S', P', b, e1, e2, e3, rfl, -, hlb, htb, hnb⟩ := pvB_nat hV'.2
    obtain rfl : S = S' := by omega
    have hnn : n = a.length := hq.hn.trans (zl_length a)
    have hmm : m = b.length := hr.hn.trans (zl_length b)
    by_cases hb0 : b = []
    · have HF : Hid (divRes C S P (zl a) (zl b) = ([], [], 12)) := by show _ = _; unfold divRes; rw [if_pos hV, hb0]; rfl
      have hm0 : m = 0 := by rw [hmm, hb0]; rfl
      have H1 := Lib.hid hV'.1
      have H2 := Lib.hid hV'.2
      subst hm0
      clear hV hV' e1 e2 e3 hv hla hlb hta htb hna hnb hnn hmm hb0 hq hr hbx
      go_enter Try.func23, Try.ntmps23
      go_wp2_with fail
      refine (rpValid_n C S P A n ca (zl a) _ hs hp HQ.out).mono ?_
      rintro e w1 ⟨rfl, hb1⟩
      rw [H1.out]
      have HB1 := Lib.hid hb1
      clear hb1
      obtain ⟨f0, f1, f2⟩ := fldC_cells (CB.out.below HB1.out)
      go_wp2_with fail
      refine (rpValid_n C S P B 0 cb (zl b) _ hs hp (HR.out.below HB1.out)).mono ?_
      rintro e w2 ⟨rfl, hb2⟩
      rw [H2.out]
      have HB2 := Lib.hid (bwStep HB1.out hb2)
      clear hb2 f0 f1 f2
      go_wp2
      go_ret3
      exact RetD.mk HF.out (Ints.nil_ _) (Ints.nil_ _) (bw1 HB2.out)
    · have hm1 : 1 ≤ m := by rw [hmm]; exact List.length_pos_iff.2 hb0
      have hl := trimmed_last htb hb0
      rw [show divRes C S P (zl a) (zl b) = (zl (divQ S P a b), zl (divRest S P a b), 0) from by
        unfold divRes; rw [if_pos hV, if_neg (fun e => hb0 (zl_nil e)), nl_zl, nl_zl]; rfl]
      by_cases hlt : n < m
      · exact rDivMod_none C S P a b A B n ca m cb w hs hp hv hla hlb hta hna hnb hV'.1 hV'.2 hm1 hlt hl hq hr
      · exact rDivMod_some C S P a b A B n ca m cb w hs hp hv hla hlb hta hna hnb hV'.1 hV'.2 hm1 (by omega) hl hq hr
end Go.Proofs.Ythpcneeidhmdkaa
