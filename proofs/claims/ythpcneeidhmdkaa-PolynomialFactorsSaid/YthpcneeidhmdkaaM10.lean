import Derived.Test.YthpcneeidhmdkaaM9
import Derived.Test.YthpcneeidhmdkaaRows
import Derived.WalkKit
import Derived.ProofKit
import Derived.OpenShut
import Derived.Carry
import Derived.Lib.SmallJoins
namespace Go.Proofs.Ythpcneeidhmdkaa
open Go.RowKit
set_option linter.unusedVariables false
set_option maxHeartbeats 4000000 in
theorem pInterp_yes (C S P : Nat) (a b : List Nat) (A : Option Addr) (n ca : Nat) (B : Option Addr) (m cb : Nat) (w : World) (hv : VF C S P) (hla : LtAll S a) (hlb : LtAll S b) (hn7 : n ≤ 4000) (hm7 : m ≤ 4000) (hp : (P : Int) ≤ 9223372036854775807)
    (hq : (⟨A, n, ca, zl a⟩ : Sl).R w) (hr : (⟨B, m, cb, zl b⟩ : Sl).R w) :
    Calls Try.prog 18 #[fldv C S P, .slice A n ca, .slice B m cb] w (RetL w (if a.length = b.length then (if a.Nodup then (zl (interpL S P a b), 0) else ([], 30)) else ([], 7))) := by
  obtain ⟨i0, hi, hz0, hz1, hz2⟩ := info_parts intInfo
  have hbx : Below w.heap.size w (w.alloc (fldB C S P)) := (Below.refl _ _).alloc (Nat.le_refl _) _
  have HQ := Lib.hid (hq.below hbx)
  have HR := Lib.hid (hr.below hbx)
  have CB : Hid (CellsAt (w.alloc (fldB C S P)) w.heap.size (fldC C S P)) := CellsAt.new _ _ _ _ rfl
  have HC : Hid (∀ w1, Below (w.alloc (fldB C S P)).heap.size (w.alloc (fldB C S P)) w1 → w1.cell? ⟨w.heap.size, 0, none⟩ = some (.int .i64 C) ∧ w1.cell? ⟨w.heap.size, 1, none⟩ = some (.int .i64 S) ∧ w1.cell? ⟨w.heap.size, 2, none⟩ = some (.int .i64 P)) := fun w1 hb => fldC_cells (CB.out.below hb)
  have EQ : Hid (∀ w1, Abv (w.alloc (fldB C S P)) w1 → Calls Try.prog 55 #[fldv C S P, .slice A n ca] w1 fun e w' => e = .returned (.bool true) ∧ Below w1.heap.size w1 w') := fun w1 hb => by
    have := elements_n C S P (zl a) n hq.hn A ca w1 hq.hm (HQ.out.below hb).rd
    rw [inB_zl hla] at this; exact this
  have ER : Hid (∀ w1, Abv (w.alloc (fldB C S P)) w1 → Calls Try.prog 55 #[fldv C S P, .slice B m cb] w1 fun e w' => e = .returned (.bool true) ∧ Below w1.heap.size w1 w') := fun w1 hb => by
    have := elements_n C S P (zl b) m hr.hn B cb w1 hr.hm (HR.out.below hb).rd
    rw [inB_zl hlb] at this; exact this
  have HV : Hid (vldB C S P = true) := vld_of hv
  have hS := hv.le
  have hS2 := hv.two_le
  have hmk := run_make_row' (P := Try.prog) 55 4 (.bool false) 1 Try.underlying55 boolInfo rfl .i64 .i64 S (by omega) (by omega)
  have HVF := Lib.hid hv
  have HLA := Lib.hid hla
  have HLB := Lib.hid hlb
  have HNN : Hid (n = a.length) := hq.hn.trans (zl_length a)
  have HMM : Hid (m = b.length) := hr.hn.trans (zl_length b)
  generalize hRES : (if a.length = b.length then (if a.Nodup then (zl (interpL S P a b), (0 : Int)) else ([], 30)) else ([], 7)) = RES
  have HRES := Lib.hid hRES
  clear hv hla hlb hq hr hbx hRES
  by_cases hne : n = m
  · subst hne
    have HZB : Hid (n = (zl b).length) := by show _ = _; rw [zl_length]; exact HMM.out
    go_enter Try.func18, Try.ntmps18
    go_wp2_with (first
        | (go_at_call 49; refine (pvalid0 C S P _ hp).mono ?_; rintro e w1 ⟨rfl, hb1⟩; rw [HV.out]; have HB1 := Lib.hid hb1; clear hb1; obtain ⟨f0, f1, f2⟩ := HC.out _ HB1.out)
        | (go_at_call 55; ((with_reducible refine (EQ.out _ HB1.out).mono ?_); rintro e w2 ⟨rfl, hb2⟩; have HB2 := Lib.hid (bwStep HB1.out hb2); clear hb2 f0 f1 f2; obtain ⟨g0, g1, g2⟩ := HC.out _ HB2.out))
        | (go_at_call 55; refine (ER.out _ HB2.out).mono ?_; rintro e w3 ⟨rfl, hb3⟩; have HB3 := Lib.hid (bwStep HB2.out hb3); clear hb3 g0 g1 g2; obtain ⟨k0, k1, k2⟩ := HC.out _ HB3.out))
    clear hmk k0 k1 k2
    have HW3 : Hid (w.heap.size < w3.heap.size) := by have := HB3.out.size; simp at this; show _ < _; omega
    have HS0 : Hid (BRowAt (w3.alloc (.cells (madeCells #[Value.bool false] S) 4)) w3.heap.size S (seenB a 0)) := (BRowAt.made w3 _ S _ rfl).ext fun i _ => by unfold seenB; simp
    go_loopw [42] (fun i wr => ∃ k : Nat, k ≤ n ∧ i = .int .i64 k ∧ Hid (Abv w3 wr) ∧ Hid (BRowAt wr w3.heap.size S (seenB a k)) ∧ Hid ((a.take k).Nodup)) (fun i _ => n - (intOf i).toNat)
    case atStart => exact ⟨0, Nat.zero_le _, rfl, (Below.refl _ _).alloc (Nat.le_refl _) _, HS0, (show (a.take 0).Nodup from by simp)⟩
    case round =>
      obtain ⟨k, hk, rfl, hAb, hRow, hND⟩ := hrel
      by_cases hlt : k < n
      · obtain ⟨ad, rfl, -, hc1⟩ := ((HQ.out.below HB3.out).below hAb.out).rd (by rw [zl_length, ← HNN.out]; omega)
        have hx := hc1 k (by rw [zl_length, ← HNN.out]; exact hlt)
        rw [zl_getD] at hx
        have hxl : a.getD k 0 < S := HLA.out k
        obtain ⟨s1, s2⟩ := hRow.out.2 (a.getD k 0) hxl
        have HSC := Lib.hid (fun x => seenB_succ a k x (by rw [← HNN.out]; exact hlt))
        have HNT := Lib.hid (nodup_take_succ a k (by rw [← HNN.out]; exact hlt))
        have HSB : Hid (seenB a k (a.getD k 0) = decide (a.getD k 0 ∈ a.take k)) := rfl
        generalize hxe : a.getD k 0 = x at *
        have HXE := Lib.hid hxe
        clear hc1 hxe
        cases hs : seenB a k x with
        | true =>
          have HF : Hid (RES = ([], 30)) := by
            show _ = _
            have h1 : x ∈ a.take k := by have := HSB.out; rw [hs] at this; simpa using this.symm
            have h2 : ¬ a.Nodup := fun hnd => by
              have : (a.take (k + 1)).Nodup := hnd.sublist (List.take_sublist _ _)
              exact (HNT.out.1 this).2 h1
            rw [← HRES.out, if_pos (by have h5 := HNN.out; have h6 := HMM.out; omega), if_neg h2]
          rw [hs] at s1
          have HS := Lib.hid hs
          clear hs
          go_wp2
          go_ret2
          exact RetL.mk HF.out (Ints.nil_ _) (bw1 (bwStep HB3.out hAb.out))
        | false =>
          have HND2 : Hid ((a.take (k + 1)).Nodup) := HNT.out.2 ⟨hND.out, by have := HSB.out; rw [hs] at this; simpa using this.symm⟩
          rw [hs] at s1
          clear hs
          go_wp2
          refine ⟨⟨k + 1, by omega, by go_num, ?_, ?_, HND2⟩, by simp [intOf]; omega⟩
          · exact hAb.out.setCell (by simp) _
          · exact (hRow.out.set x true).ext fun i _ => (HSC.out i).symm
      · obtain rfl : k = n := by omega
        have HNDA : Hid a.Nodup := by have := hND.out; rw [HNN.out, List.take_length] at this; exact this
        obtain ⟨f0, f1, f2⟩ := HC.out wr (bwStep HB3.out hAb.out)
        clear hND hRow
        go_wp2_with (first
          | (go_at_call 50; refine (newA_any C S P _ HVF.out).mono ?_; rintro e w4 ⟨be, bl, rfl, ht, hb4⟩; have HT := Lib.hid ht; have HB4 := Lib.hid hb4; clear ht hb4; have HRB : Hid (RD (w4.alloc (arc C S be bl)) B (zl b)) := (((HR.out.below HB3.out).below hAb.out).below HB4.out).rd.alloc _)
          | (at_builtin; refine wpList_append_read rfl _ _ _ rfl (w4.heap.size + 1) 3 i0 _ Try.underlying24 hi hz0 hz1 hz2 rfl (.slice none 0 0) 0 [] rfl (World.ownsRow_nil _ _ _ _) B _ _ (zl b) rfl HZB.out HRB.out (by omega) (by simp) ?_; intro v5 w5 hown hg hat; have HB5 : Hid (Abv (w4.alloc (arc C S be bl)) w5) := (Below.refl _ _).grown hg (Nat.le_refl _) (fun j hj => by cases hj); obtain ⟨A1, c1, rfl, hc1, hc2, his⟩ := IS.own (d := b) (n := k) HB5.out (by simpa using hown); have HIS := Lib.hid his; clear hown hg hat his))
        clear f0 f1 f2
        have HX0 : Hid (CellsAt (w4.alloc (arc C S be bl)) w4.heap.size (arcv C S be bl)) := CellsAt.new _ _ _ _ rfl
        have HT0 : Hid (TabAt (w4.alloc (arc C S be bl)) S P be bl) := HT.out.alloc _
        have HQ0 : Hid (RD (w4.alloc (arc C S be bl)) A (zl a)) := (((HQ.out.below HB3.out).below hAb.out).below HB4.out).rd.alloc _
        have HBF : Hid (Below w.heap.size w (w4.alloc (arc C S be bl))) := bwAlloc (bw1 (bwStep (bwStep HB3.out hAb.out) HB4.out)) _
        clear HB4 HT hAb HB3 HB2 HB1 HS0 HW3 HQ HR CB HC EQ ER HRB HB5
        generalize w4.alloc (arc C S be bl) = W0 at *
        generalize w4.heap.size = rb at *
        have HDL : Hid (∀ j, (ddO S P a b j).length = k) := fun j => (ddO_length _ _ _ _ _).trans HMM.out.symm
        have HDT : Hid (∀ j, LtAll S (ddO S P a b j)) := fun j => ddO_lt HVF.out HLB.out j
        go_loopw [13] (fun jv wr => ∃ jj : Nat, jj ≤ k - 1 ∧ jv = .int .i64 ((jj : Int) + 1) ∧ Hid (IS W0 wr A1 (ddO S P a b jj))) (fun jv _ => k - (intOf jv).toNat)
        case atStart => exact ⟨0, Nat.zero_le _, rfl, HIS⟩
        case round =>
          obtain ⟨jj, hjj, rfl, hI⟩ := hrel
          by_cases hlt2 : jj + 1 < k
          · have HSD : Hid (ddO S P a b (jj + 1) = ddIn S P a (ddO S P a b jj) (jj + 1) (k - (jj + 1))) := by show _ = _; rw [HNN.out]; rfl
            have HDLj := Lib.hid (HDL.out jj)
            have HDTj := Lib.hid (HDT.out jj)
            generalize hD : ddO S P a b jj = D at *
            have HD := Lib.hid hD
            clear hD
            obtain ⟨g, rfl, hg⟩ := hI.out.hA (by have := HDLj.out; omega)
            obtain ⟨j, hj⟩ : ∃ j, j = jj + 1 := ⟨_, rfl⟩
            rw [← hj] at HSD hlt2
            rw [show (jj : Int) + 1 = (j : Int) from by omega]
            have hj1 : 1 ≤ j := by omega
            have hjk : j < k := by omega
            have HJ := Lib.hid hj
            clear hj hlt2
            go_wp2
            obtain ⟨wo, rfl⟩ : ∃ wo : World, wo = wr := ⟨_, rfl⟩
            go_loopw [14] (fun iv wr => ∃ (t : Nat) (z : Int), t ≤ k - j ∧ iv = .int .i64 z ∧ Hid (z = (k : Int) - 1 - t) ∧ Hid (IS W0 wr (some ⟨g, 0, none⟩) (ddIn S P a D j t))) (fun iv _ => (intOf iv + 1).toNat)
            case atStart => exact ⟨0, _, Nat.zero_le _, rfl, by show _ = _; omega, hI⟩
            case round =>
              obtain ⟨t, z, ht, rfl, hz, hE⟩ := hrel
              by_cases hlt3 : t < k - j
              · obtain ⟨i, hie⟩ : ∃ i, i = k - 1 - t := ⟨_, rfl⟩
                obtain ⟨i1, hie1⟩ : ∃ i1, i1 = i - 1 := ⟨_, rfl⟩
                obtain ⟨i2, hie2⟩ : ∃ i2, i2 = i - j := ⟨_, rfl⟩
                obtain rfl : z = (i : Int) := by have := hz.out; omega
                have hik : i < k := by omega
                have hji : j ≤ i := by omega
                have hi1k : i1 < k := by omega
                have hi2k : i2 < k := by omega
                have e1 : (i : Int) - 1 = (i1 : Int) := by omega
                have e2 : (i : Int) - (j : Int) = (i2 : Int) := by omega
                have hST : ddIn S P a D j (t + 1) = _ := rfl
                have HST : Hid (ddIn S P a D j (t + 1) = (ddIn S P a D j t).set i (fmulN S P (fsubN S P ((ddIn S P a D j t).getD i 0) ((ddIn S P a D j t).getD i1 0)) (finvN S P (fsubN S P (a.getD i 0) (a.getD i2 0))))) := by
                  show _ = _
                  rw [hie2, hie1, hie, HNN.out]; rfl
                have HIE := Lib.hid hie
                have HEL : Hid (LtAll S (ddIn S P a D j t)) := ddIn_lt HVF.out HDTj.out _ _
                have HEN : Hid ((ddIn S P a D j t).length = k) := (ddIn_length _ _ _ _ _ _).trans HDLj.out
                have HNEQ : Hid (fsubN S P (a.getD i 0) (a.getD i2 0) ≠ 0) := subN_ne HVF.out (HLA.out _) (HLA.out _) (nodup_getD HNDA.out (by rw [← HNN.out]; exact hik) (by rw [← HNN.out]; exact hi2k) (by omega))
                obtain ⟨ad, rfl, hadw, hca⟩ := HQ0.out (by rw [zl_length, ← HNN.out]; omega)
                have HAC : Hid (∀ W, Abv W0 W → ∀ q, q < k → W.cell? (ad.add q) = some (.int .i64 ((a.getD q 0 : Nat) : Int))) := by
                  show ∀ W, _
                  intro W hW q hq
                  rw [hW.cell (by rw [block_of_add]; exact hadw), hca q (by rw [zl_length, ← HNN.out]; exact hq), zl_getD]
                have hc1 := (hE.out.O g rfl).2 i (by rw [HEN.out]; exact hik)
                have hc2 := (hE.out.O g rfl).2 i1 (by rw [HEN.out]; exact hi1k)
                have HU1 : Hid ((ddIn S P a D j t).getD i 0 < S) := HEL.out i
                have HU2 : Hid ((ddIn S P a D j t).getD i1 0 < S) := HEL.out i1
                have HX1 : Hid (a.getD i 0 < S) := HLA.out i
                have HX2 : Hid (a.getD i2 0 < S) := HLA.out i2
                have CF : Hid (∀ W, Abv wr W → (W.cell? ⟨rb, 0, none⟩ = some (.int .i64 C) ∧ W.cell? ⟨rb, 1, none⟩ = some (.int .i64 S) ∧ W.cell? ⟨rb, 2, none⟩ = some (.slice (some ⟨be, 0, none⟩) (S - 1) (S - 1)) ∧ W.cell? ⟨rb, 3, none⟩ = some (.slice (some ⟨bl, 0, none⟩) S S)) ∧ W.cell? ⟨g, i, none⟩ = some (.int .i64 (((ddIn S P a D j t).getD i 0 : Nat) : Int)) ∧ W.cell? ⟨g, i1, none⟩ = some (.int .i64 (((ddIn S P a D j t).getD i1 0 : Nat) : Int)) ∧ W.cell? (ad.add i) = some (.int .i64 ((a.getD i 0 : Nat) : Int)) ∧ W.cell? (ad.add i2) = some (.int .i64 ((a.getD i2 0 : Nat) : Int)) ∧ W.frozen? ⟨g, i, none⟩ = false) := by
                  show ∀ W, _
                  intro W hW
                  have hg1 := (hE.out.O g rfl).1
                  exact ⟨arcv_cells (HX0.out.below (bwStep hE.out.B hW)), (hW.cell hg1).trans hc1.1, (hW.cell hg1).trans hc2.1, HAC.out W (bwStep hE.out.B hW) i hik, HAC.out W (bwStep hE.out.B hW) i2 hi2k, (hW.frozen hg1).trans hc1.2⟩
                clear hST hie hie1 hie2 hca hc1 hc2
                generalize (ddIn S P a D j t).getD i 0 = v1 at *
                generalize (ddIn S P a D j t).getD i1 0 = v2 at *
                generalize a.getD i 0 = x1 at *
                generalize a.getD i2 0 = x2 at *
                have w1' : IntKind.i64.wrap (i1 : Int) = (i1 : Int) := wr64 _ (by omega) (by omega)
                have w2' : IntKind.i64.wrap (i2 : Int) = (i2 : Int) := wr64 _ (by omega) (by omega)
                go_wp2
                refine wp_region_S (S := Abv wr) 28 (by kernel_rfl) (by kernel_rfl) (bwDrew (Below.refl _ _)) ?_
                simp only [List.take_succ_cons, List.take_zero, List.drop_succ_cons, List.drop_zero]
                repeat
                  refine' wpHS_val rfl (fun W hW => ?_) ?_
                  rotate_left
                  · have hcf := CF.out W hW; go_simp; rfl
                  simp only [Act.put, List.setIfInBounds_toArray, List.set_cons_zero, List.set_cons_succ]
                refine' wpHS_call rfl (fun W => ?_) (fun W hW => ?_) ?_
                rotate_left 3
                · go_simp; exact ⟨rfl, rfl⟩
                · exact (asub_any C S P be bl v1 v2 W HVF.out HU1.out HU2.out).mono (fun e W1 h => ⟨h.1, bwStep hW h.2⟩)
                simp only [Act.put, List.setIfInBounds_toArray, List.set_cons_zero, List.set_cons_succ]
                repeat
                  refine' wpHS_val rfl (fun W hW => ?_) ?_
                  rotate_left
                  · have hcf := CF.out W hW; go_simp; rfl
                  simp only [Act.put, List.setIfInBounds_toArray, List.set_cons_zero, List.set_cons_succ]
                refine' wpHS_call rfl (fun W => ?_) (fun W hW => ?_) ?_
                rotate_left 3
                · go_simp; exact ⟨rfl, rfl⟩
                · exact (asub_any C S P be bl x1 x2 W HVF.out HX1.out HX2.out).mono (fun e W1 h => ⟨h.1, bwStep hW h.2⟩)
                simp only [Act.put, List.setIfInBounds_toArray, List.set_cons_zero, List.set_cons_succ]
                repeat
                  refine' wpHS_val rfl (fun W hW => ?_) ?_
                  rotate_left
                  · have hcf := CF.out W hW; go_simp; rfl
                  simp only [Act.put, List.setIfInBounds_toArray, List.set_cons_zero, List.set_cons_succ]
                refine' wpHS_call rfl (fun W => ?_) (fun W hW => ?_) ?_
                rotate_left 3
                · go_simp; exact ⟨rfl, rfl⟩
                · exact (adiv_any C S P be bl (fsubN S P v1 v2) (fsubN S P x1 x2) W HVF.out (subN_lt HVF.out HU1.out HU2.out) (subN_lt HVF.out HX1.out HX2.out) HNEQ.out ((HT0.out.below hE.out.B).below hW)).mono (fun e W1 h => ⟨h.1, bwStep hW h.2⟩)
                simp only [Act.put, List.setIfInBounds_toArray, List.set_cons_zero, List.set_cons_succ]
                repeat
                  refine' wpHS_val rfl (fun W hW => ?_) ?_
                  rotate_left
                  · have hcf := CF.out W hW; go_simp; rfl
                  simp only [Act.put, List.setIfInBounds_toArray, List.set_cons_zero, List.set_cons_succ]
                refine wpHS_nil ?_
                intro w6 hb1
                have HB6 := Lib.hid hb1
                clear hb1
                obtain ⟨-, st1, -, -, -, st2⟩ := CF.out w6 HB6.out
                clear w1' w2'
                go_wp2
                exact ⟨⟨t + 1, _, by omega, rfl, by have := HIE.out; show _ = _; omega, by rw [HST.out]; exact hE.out.set HB6.out hg _ _⟩, by simp [intOf]; omega⟩
              · obtain rfl : t = k - j := by omega
                have hzj : z < (j : Int) := by have := hz.out; omega
                go_wp2
                exact ⟨⟨jj + 1, by have := HJ.out; omega, by have := HJ.out; go_num, by rw [← HJ.out, HSD.out]; exact hE⟩, by have := HJ.out; simp [intOf]; omega⟩
          · have HJE : Hid (jj = k - 1) := by show _ = _; omega
            obtain ⟨wo, rfl⟩ : ∃ wo : World, wo = wr := ⟨_, rfl⟩
            have HRF : Hid (RES = (zl (trimL (nwt S P a (ddO S P a b jj) k)), 0)) := by
              show _ = _
              rw [← HRES.out, if_pos (by have h5 := HNN.out; have h6 := HMM.out; omega), if_pos HNDA.out, HJE.out, HNN.out]; rfl
            have HDLj := Lib.hid (HDL.out jj)
            have HDTj := Lib.hid (HDT.out jj)
            generalize hD : ddO S P a b jj = D at *
            clear hD HDL HDT
            have HNS : Hid (∀ t, nwt S P a D (t + 1) = extL S P (nwt S P a D t) (a.getD (k - 1 - t) 0) (D.getD (k - 1 - t) 0)) := by
              intro t
              rw [HNN.out]; rfl
            go_wp2
            go_loopw [15, 16] (fun pv iv wr => ∃ (t : Nat) (z : Int), t ≤ k ∧ iv = .int .i64 z ∧ Hid (z = (k : Int) - 1 - t) ∧ Hid (Abv wo wr) ∧ Hid (Ints wr pv (zl (nwt S P a D t)))) (fun _ iv _ => (intOf iv + 1).toNat)
            case atStart => exact ⟨0, _, Nat.zero_le _, rfl, by show _ = _; omega, Below.refl _ _, Ints.nil_ _⟩
            case round =>
              obtain ⟨t, z, ht, rfl, hz, hA, hP⟩ := hrel
              obtain ⟨A2, n2, c2, rfl, hn2, hnc2, -, hrd2⟩ := hP.out.n
              have HN2 := Lib.hid hn2
              have HRD2 := Lib.hid hrd2
              have hn2k : n2 ≤ t := by rw [hn2, nwt_length]; exact Nat.le_refl _
              clear hn2 hrd2
              by_cases hlt3 : t < k
              · obtain ⟨g, rfl, hg⟩ := hI.out.hA (by have := HDLj.out; omega)
                obtain ⟨i, hie⟩ : ∃ i, i = k - 1 - t := ⟨_, rfl⟩
                obtain rfl : z = (i : Int) := by have := hz.out; omega
                have hik : i < k := by omega
                have HSTt := HNS.out t
                rw [← hie] at HSTt
                have HIE := Lib.hid hie
                obtain ⟨ad, rfl, hadw, hca⟩ := HQ0.out (by rw [zl_length, ← HNN.out]; omega)
                have hc1 := (hI.out.O g rfl).2 i (by rw [HDLj.out]; exact hik)
                have HX1 : Hid (a.getD i 0 < S) := HLA.out i
                have HD1 : Hid (D.getD i 0 < S) := HDTj.out i
                have CF : Hid (∀ W, Abv wr W → (W.cell? ⟨rb, 0, none⟩ = some (.int .i64 C) ∧ W.cell? ⟨rb, 1, none⟩ = some (.int .i64 S) ∧ W.cell? ⟨rb, 2, none⟩ = some (.slice (some ⟨be, 0, none⟩) (S - 1) (S - 1)) ∧ W.cell? ⟨rb, 3, none⟩ = some (.slice (some ⟨bl, 0, none⟩) S S)) ∧ W.cell? ⟨g, i, none⟩ = some (.int .i64 ((D.getD i 0 : Nat) : Int)) ∧ W.cell? (ad.add i) = some (.int .i64 ((a.getD i 0 : Nat) : Int))) := by
                  show ∀ W, _
                  intro W hW
                  have hb0 := bwStep hA.out hW
                  refine ⟨arcv_cells (HX0.out.below (bwStep hI.out.B hb0)), (hb0.cell (hI.out.O g rfl).1).trans hc1.1, ?_⟩
                  rw [(bwStep hI.out.B hb0).cell (by rw [block_of_add]; exact hadw), hca i (by rw [zl_length, ← HNN.out]; exact hik), zl_getD]
                have HST := Lib.hid HSTt
                clear HSTt hie hca hc1
                generalize a.getD i 0 = x1 at *
                generalize D.getD i 0 = d1 at *
                go_wp2
                refine wp_region_S (S := Abv wr) 10 (by kernel_rfl) (by kernel_rfl) (bwDrew (Below.refl _ _)) ?_
                simp only [List.take_succ_cons, List.take_zero, List.drop_succ_cons, List.drop_zero]
                repeat
                  refine' wpHS_val rfl (fun W hW => ?_) ?_
                  rotate_left
                  · have hcf := CF.out W hW; go_simp; rfl
                  simp only [Act.put, List.setIfInBounds_toArray, List.set_cons_zero, List.set_cons_succ]
                refine wpHS_nil ?_
                intro w6 hb1
                have HB6 := Lib.hid hb1
                clear hb1
                go_wp2_with (go_at_call 58; refine (aextend_n C S P be bl x1 d1 (nwt S P a D t) n2 HN2.out A2 c2 _ HVF.out (nwt_lt HVF.out HLA.out HDTj.out t) HX1.out HD1.out (by rw [nwt_length]; omega) (((HT0.out.below hI.out.B).below hA.out).below HB6.out) (HRD2.out.below HB6.out)).mono ?_; rintro e w7 ⟨v7, rfl, hI7, hb7⟩; have HI7 := Lib.hid hI7; have HB7 := Lib.hid hb7; clear hI7 hb7)
                exact ⟨⟨t + 1, _, by omega, rfl, by have := HIE.out; show _ = _; omega, bwStep hA.out (bwStep HB6.out HB7.out), by rw [HST.out]; exact HI7.out⟩, by simp [intOf]⟩
              · obtain rfl : t = k := by omega
                have hz0 : z < 0 := by have := hz.out; omega
                go_wp2_with (go_at_call 34; refine (Trim_n (nwt S P a D t) n2 HN2.out A2 c2 _ (by omega) hnc2 HRD2.out).mono ?_; rintro e w7 ⟨v7, rfl, hI7, hb7⟩; have HI7 := Lib.hid hI7; have HB7 := Lib.hid hb7; clear hI7 hb7)
                go_ret2
                exact RetL.mk HRF.out HI7.out (bwStep (bwStep (bwStep HBF.out hI.out.B) hA.out) HB7.out)
  · have HF : Hid (RES = ([], 7)) := by
      show _ = _
      rw [← HRES.out, if_neg (by have h5 := HNN.out; have h6 := HMM.out; omega)]
    have z1 : ((n : Int) != (m : Int)) = true := by rw [bne_iff_ne]; omega
    go_enter Try.func18, Try.ntmps18
    go_wp2_with (first
        | (go_at_call 49; refine (pvalid0 C S P _ hp).mono ?_; rintro e w1 ⟨rfl, hb1⟩; rw [HV.out]; have HB1 := Lib.hid hb1; clear hb1; obtain ⟨f0, f1, f2⟩ := HC.out _ HB1.out)
        | (go_at_call 55; ((with_reducible refine (EQ.out _ HB1.out).mono ?_); rintro e w2 ⟨rfl, hb2⟩; have HB2 := Lib.hid (bwStep HB1.out hb2); clear hb2 f0 f1 f2; obtain ⟨g0, g1, g2⟩ := HC.out _ HB2.out))
        | (go_at_call 55; refine (ER.out _ HB2.out).mono ?_; rintro e w3 ⟨rfl, hb3⟩; have HB3 := Lib.hid (bwStep HB2.out hb3); clear hb3 g0 g1 g2; obtain ⟨k0, k1, k2⟩ := HC.out _ HB3.out))
    go_ret2
    exact RetL.mk HF.out (Ints.nil_ _) (bw1 HB3.out)
end Go.Proofs.Ythpcneeidhmdkaa
namespace Go.Proofs.Ythpcneeidhmdkaa
open Go.RowKit
set_option linter.unusedVariables false
theorem pInterp_any (c s p : Int) (q r : Sl) (w : World) (hp : p ≤ 9223372036854775807) (hq : q.R w) (hr : r.R w) (hn : q.n ≤ 4000) (hm : r.n ≤ 4000) :
    Calls Try.prog 18 #[fldv c s p, q.v, r.v] w (RetL w (interpRes c s p q.xs r.xs)) := by
  cases hV : (vldB c s p && inB s q.xs && inB s r.xs) with
  | false =>
    have : interpRes c s p q.xs r.xs = ([], 1) := by unfold interpRes; rw [hV]; rfl
    rw [this]; exact pInterp_no c s p q r w hp hq hr hV
  | true =>
    have hV' := hV
    rw [Bool.and_eq_true, Bool.and_eq_true] at hV'
    obtain ⟨C, S, P, rfl, rfl, rfl, hv⟩ := vld_nat hV'.1.1
    obtain ⟨A, n, ca, xs⟩ := q
    obtain ⟨B, m, cb, ys⟩ := r
    obtain ⟨a, e1, hla⟩ := inB_nat (by have := hv.two_le; omega) hV'.1.2
    obtain ⟨b, e2, hlb⟩ := inB_nat (by have := hv.two_le; omega) hV'.2
    simp only at e1 e2
    subst e1 e2
    have : interpRes C S P (zl a) (zl b) = (if a.length = b.length then (if a.Nodup then (zl (interpL S P a b), 0) else ([], 30)) else ([], 7)) := by
      unfold interpRes
      rw [if_pos hV, zl_length, zl_length, nl_zl, nl_zl]
      by_cases h1 : a.length = b.length
      · rw [if_pos h1, if_pos h1]
        by_cases h2 : a.Nodup
        · rw [if_pos h2, if_pos ((nodup_zl a).2 h2)]; rfl
        · rw [if_neg h2, if_neg (fun h => h2 ((nodup_zl a).1 h))]
      · rw [if_neg h1, if_neg h1]
    rw [this]
    exact pInterp_yes C S P a b A n ca B m cb w hv hla hlb hn hm hp hq hr
theorem same_n (xs ys : List Int) (A B : Option Addr) (n m ca cb : Nat) (w : World) (hn : n = xs.length) (hm : m = ys.length) (h1 : n ≤ 9223372036854775807) (ha : RD w A xs) (hb : RD w B ys) :
    Calls Try.prog 17 #[.slice A n ca, .slice B m cb] w fun e w' => e = .returned (.bool (decide (xs = ys))) ∧ Below w.heap.size w w' := by
  subst hn hm; exact same_any xs ys A B ca cb w h1 ha hb
theorem same_v (xs ys : List Int) (u v : Value) (w : World) (ha : Ints w u xs) (hb : Ints w v ys) :
    Calls Try.prog 17 #[u, v] w fun e w' => e = .returned (.bool (decide (xs = ys))) ∧ Below w.heap.size w w' := by
  obtain ⟨A, ca, rfl, h1, h2, h3⟩ := ha
  obtain ⟨B, cb, rfl, g1, g2, g3⟩ := hb
  exact same_n xs ys A B _ _ ca cb w rfl rfl (by unfold maxLen at h2; omega) h3 g3
theorem RD.lit (W : World) (xs : List Int) (t : TypeId) (b : Nat) (hb : b = W.heap.size) : RD (W.alloc (.cells (xs.map (Value.int .i64)).toArray t)) (some ⟨b, 0, none⟩) xs := fun _ => by
  refine ⟨_, rfl, by simp; omega, fun j hj => ?_⟩
  have := (CellsAt.new W (xs.map (Value.int .i64)).toArray t b hb).2 j (by simpa using hj)
  rw [add_plain, Nat.zero_add, this]
  simp [List.getD, hj]
/-- a literal slice -/
theorem Sl.lit (W : World) (xs : List Int) (t : TypeId) (b n : Nat) (hb : b = W.heap.size) (hn : n = xs.length) (h : n ≤ 1000) : (⟨some ⟨b, 0, none⟩, n, n, xs⟩ : Sl).R (W.alloc (.cells (xs.map (Value.int .i64)).toArray t)) :=
  ⟨hn, by simp only; omega, RD.lit W xs t b hb, Nat.le_refl _, by simp only [maxLen]; omega⟩
theorem Ints.lit (W : World) (xs : List Int) (t : TypeId) (b n : Nat) (hb : b = W.heap.size) (hn : n = xs.length) (h : n ≤ 1000) : Ints (W.alloc (.cells (xs.map (Value.int .i64)).toArray t)) (.slice (some ⟨b, 0, none⟩) n n) xs :=
  (Sl.lit W xs t b n hb hn h).ints
theorem bwA (W : World) (o : Obj) : Below W.heap.size W (W.alloc o) := (Below.refl _ _).alloc (Nat.le_refl _) _
theorem ex1 : primeV 5 = ftup 5 5 0 0 := by
  have : primeB (5 : Int).toNat = true := by decide
  unfold primeV; rw [this]; rfl
theorem ex2 : primeV 7 = ftup 7 7 0 0 := by
  have : primeB (7 : Int).toNat = true := by decide
  unfold primeV; rw [this]; rfl
theorem ex3 : mulRes 5 5 0 [2, 1] [3, 1] = ([1, 0, 1], 0) := by decide +kernel
theorem ex4 : rootsRes 5 5 0 [1, 0, 1] = ([2, 3], 0) := by decide +kernel
theorem ex5 : interpRes 7 7 0 [0, 1, 2] [1, 2, 4] = ([1, 4, 4], 0) := by decide +kernel
theorem ex6 : gcdRes 5 5 0 [1, 0, 1] [3, 1] = ([3, 1], 0) := by decide +kernel
set_option maxRecDepth 100000 in
set_option maxHeartbeats 4000000 in
theorem examples_any (w : World) : Calls Try.prog 14 #[] w fun e w' => e = .returned (.bool true) ∧ Below w.heap.size w w' := by
  go_enter Try.func14, Try.ntmps14
  go_wp2_with fail
  refine (Prime_any 5 _).mono ?_
  rintro e w1 ⟨rfl, hb1⟩
  rw [ex1]
  have HB1 := Lib.hid hb1
  clear hb1
  go_wp2_with fail
  refine (Prime_any 7 _).mono ?_
  rintro e w2 ⟨rfl, hb2⟩
  rw [ex2]
  have KF : Hid (CellsAt w2 w1.heap.size (fldC 5 5 0)) := (CellsAt.new w1 #[.int .i64 5, .int .i64 5, .int .i64 0] 23 _ rfl).below hb2
  have HB2 : Hid (Below w.heap.size w w2) := bwStep (bwAlloc HB1.out _) hb2
  obtain ⟨f0, f1, f2⟩ := fldC_cells KF.out
  have yf := KF.out.1
  clear hb2
  go_wp2_with fail
  clear f0 f1 f2 yf
  refine (pMul_any 5 5 0 ⟨_, 2, 2, [2, 1]⟩ ⟨_, 2, 2, [3, 1]⟩ _ (by omega) ((Sl.lit _ [2, 1] 3 _ 2 (by simp) rfl (by omega)).below (bwA _ _)) (Sl.lit _ [3, 1] 3 _ 2 (by simp) rfl (by omega))).mono ?_
  rintro e w3 ⟨v3, rfl, hI3, hb3⟩
  rw [ex3] at hI3 ⊢
  have NB3 : Hid (Below w2.heap.size w2 w3) := bwStep (bwAlloc (bwAlloc (bwAlloc (Below.refl _ _) _) _) _) hb3
  have HB3 : Hid (Below w.heap.size w w3) := bwStep HB2.out NB3.out
  have KF3 := Lib.hid (KF.out.below NB3.out)
  have KG3 : Hid (CellsAt w3 w2.heap.size (fldC 7 7 0)) := ((CellsAt.new w2 #[.int .i64 7, .int .i64 7, .int .i64 0] 23 _ rfl).alloc _ |>.alloc _).below hb3
  have HI3 := Lib.hid hI3
  clear hI3 hb3
  have cells3 := fldC_cells KF3.out
  obtain ⟨f30, f31, f32⟩ := cells3
  have yf3 := KF3.out.1
  go_wp2_with fail
  clear f30 f31 f32 yf3
  refine (pRoots_any 5 5 0 ⟨_, 3, 3, [1, 0, 1]⟩ _ (by omega) (Sl.lit _ [1, 0, 1] 3 _ 3 (by simp) rfl (by omega))).mono ?_
  rintro e w4 ⟨v4, rfl, hI4, hb4⟩
  rw [ex4] at hI4 ⊢
  have NB4 : Hid (Below w3.heap.size w3 w4) := bwStep (bwAlloc (Below.refl _ _) _) hb4
  have HB4 : Hid (Below w.heap.size w w4) := bwStep HB3.out NB4.out
  have KF4 := Lib.hid (KF3.out.below NB4.out)
  have KG4 := Lib.hid (KG3.out.below NB4.out)
  have HI4 := Lib.hid hI4
  clear hI4 hb4
  have HI34 := Lib.hid (HI3.out.below NB4.out)
  have cells4 := fldC_cells KG4.out
  obtain ⟨f40, f41, f42⟩ := cells4
  have yf4 := KG4.out.1
  go_wp2_with fail
  clear f40 f41 f42 yf4
  refine (pInterp_any 7 7 0 ⟨_, 3, 3, [0, 1, 2]⟩ ⟨_, 3, 3, [1, 2, 4]⟩ _ (by omega) ((Sl.lit _ [0, 1, 2] 3 _ 3 (by simp) rfl (by omega)).below (bwA _ _)) (Sl.lit _ [1, 2, 4] 3 _ 3 (by simp) rfl (by omega)) (by simp) (by simp)).mono ?_
  rintro e w5 ⟨v5, rfl, hI5, hb5⟩
  rw [ex5] at hI5 ⊢
  have NB5 : Hid (Below w4.heap.size w4 w5) := bwStep (bwAlloc (bwAlloc (Below.refl _ _) _) _) hb5
  have HB5 : Hid (Below w.heap.size w w5) := bwStep HB4.out NB5.out
  have KF5 := Lib.hid (KF4.out.below NB5.out)
  have HI5 := Lib.hid hI5
  clear hI5 hb5
  have HI35 := Lib.hid (HI34.out.below NB5.out)
  have HI45 := Lib.hid (HI4.out.below NB5.out)
  have cells5 := fldC_cells KF5.out
  obtain ⟨f50, f51, f52⟩ := cells5
  have yf5 := KF5.out.1
  go_wp2_with fail
  clear f50 f51 f52 yf5
  refine (pGCD_any 5 5 0 ⟨_, 3, 3, [1, 0, 1]⟩ ⟨_, 2, 2, [3, 1]⟩ _ (by omega) ((Sl.lit _ [1, 0, 1] 3 _ 3 (by simp) rfl (by omega)).below (bwA _ _)) (Sl.lit _ [3, 1] 3 _ 2 (by simp) rfl (by omega))).mono ?_
  rintro e w6 ⟨v6, rfl, hI6, hb6⟩
  rw [ex6] at hI6 ⊢
  have NB6 : Hid (Below w5.heap.size w5 w6) := bwStep (bwAlloc (bwAlloc (Below.refl _ _) _) _) hb6
  have HB6 : Hid (Below w.heap.size w w6) := bwStep HB5.out NB6.out
  have HI6 := Lib.hid hI6
  clear hI6 hb6
  have I1 := Lib.hid (HI35.out.below NB6.out)
  have I2 := Lib.hid (HI45.out.below NB6.out)
  have I3 := Lib.hid (HI5.out.below NB6.out)
  go_wp2_with fail
  refine (same_v [1, 0, 1] [1, 0, 1] _ _ _ (I1.out.below (bwA _ _)) (Ints.lit _ [1, 0, 1] 3 _ 3 (by simp) rfl (by omega))).mono ?_
  rintro e w7 ⟨rfl, hb7⟩
  rw [show decide (([1, 0, 1] : List Int) = [1, 0, 1]) = true from rfl]
  have NB7 : Hid (Below w6.heap.size w6 w7) := bwStep (bwAlloc (Below.refl _ _) _) hb7
  have HB7 : Hid (Below w.heap.size w w7) := bwStep HB6.out NB7.out
  clear hb7
  go_wp2_with fail
  refine (same_v [2, 3] [2, 3] _ _ _ ((I2.out.below NB7.out).below (bwA _ _)) (Ints.lit _ [2, 3] 3 _ 2 (by simp) rfl (by omega))).mono ?_
  rintro e w8 ⟨rfl, hb8⟩
  rw [show decide (([2, 3] : List Int) = [2, 3]) = true from rfl]
  have NB8 : Hid (Below w7.heap.size w7 w8) := bwStep (bwAlloc (Below.refl _ _) _) hb8
  have HB8 : Hid (Below w.heap.size w w8) := bwStep HB7.out NB8.out
  clear hb8
  go_wp2_with fail
  refine (same_v [1, 4, 4] [1, 4, 4] _ _ _ (((I3.out.below NB7.out).below NB8.out).below (bwA _ _)) (Ints.lit _ [1, 4, 4] 3 _ 3 (by simp) rfl (by omega))).mono ?_
  rintro e w9 ⟨rfl, hb9⟩
  rw [show decide (([1, 4, 4] : List Int) = [1, 4, 4]) = true from rfl]
  have NB9 : Hid (Below w8.heap.size w8 w9) := bwStep (bwAlloc (Below.refl _ _) _) hb9
  have HB9 : Hid (Below w.heap.size w w9) := bwStep HB8.out NB9.out
  clear hb9
  go_wp2_with fail
  refine (same_v [3, 1] [3, 1] _ _ _ ((((HI6.out.below NB7.out).below NB8.out).below NB9.out).below (bwA _ _)) (Ints.lit _ [3, 1] 3 _ 2 (by simp) rfl (by omega))).mono ?_
  rintro e w10 ⟨rfl, hb10⟩
  rw [show decide (([3, 1] : List Int) = [3, 1]) = true from rfl]
  have NB10 : Hid (Below w9.heap.size w9 w10) := bwStep (bwAlloc (Below.refl _ _) _) hb10
  have HB10 : Hid (Below w.heap.size w w10) := bwStep HB9.out NB10.out
  clear hb10
  go_wp2_with fail
  go_ret
  exact ⟨rfl, HB10.out⟩
end Go.Proofs.Ythpcneeidhmdkaa
namespace Go.Proofs.Ythpcneeidhmdkaa
open Go.RowKit
set_option linter.unusedVariables false
/-! the reference's product -/
theorem rpValid_n (c s p : Int) (A : Option Addr) (n ca : Nat) (xs : List Int) (w : World) (hs : s ≤ 9223372036854775807) (hp : p ≤ 9223372036854775807) (hq : (⟨A, n, ca, xs⟩ : Sl).R w) :
    Calls Try.prog 46 #[fldv c s p, .slice A n ca] w fun e w' => e = .returned (.bool (pvB c s p xs)) ∧ Below w.heap.size w w' := rpValid_any c s p ⟨A, n, ca, xs⟩ w hs hp hq
theorem rTrim_n (l : List Nat) (n : Nat) (hn : n = l.length) (A : Option Addr) (ca : Nat) (w : World) (h1 : n ≤ 100000) (hca : n ≤ ca) (ha : RD w A (zl l)) :
    Calls Try.prog 47 #[.slice A n ca] w fun e w' => ∃ v, e = .returned v ∧ Ints w' v (zl (trimL l)) ∧ Below w.heap.size w w' := by
  have e : n = (zl l).length := by rw [zl_length]; exact hn
  rw [e] at h1 hca ⊢
  rw [← trimI_zl]
  exact rTrim_any _ _ _ _ (by omega) hca ha
/-- a box at the call's begin, and a row of its own in block g -/
structure OutG (w wr : World) (bx : List Value) (g : Nat) (l : List Nat) : Prop where
  B : Below w.heap.size w wr
  X : CellsAt wr w.heap.size bx
  O : RowAt wr g l
  hg : w.heap.size < g
theorem OutG.below {w wr W : World} {bx : List Value} {g : Nat} {l : List Nat} (h : OutG w wr bx g l) (hb : Below wr.heap.size wr W) : OutG w W bx g l := ⟨bwStep h.B hb, h.X.below hb, h.O.below hb, h.hg⟩
theorem OutG.set {w wr : World} {bx : List Value} {g : Nat} {l : List Nat} (h : OutG w wr bx g l) (i v : Nat) : OutG w (wr.setCell ⟨g, i, none⟩ (.int .i64 (v : Int))) bx g (l.set i v) :=
  ⟨h.B.setCell (by have := h.hg; simp; omega) _, h.X.other _ _ (by have := h.hg; simp; omega), h.O.set i v, h.hg⟩
theorem mulL_trim {c s p : Nat} (h : VF c s p) {a b : List Nat} (ha : LtAll s a) (hb : LtAll s b) (ta : Trimmed a) (tb : Trimmed b) : trimL (mulL s p a b) = mulL s p a b := trimL_self (mulL_trimmed h ha hb ta tb)
set_option maxHeartbeats 4000000 in
theorem rMul_yes (C S P : Nat) (a b : List Nat) (A : Option Addr) (n ca : Nat) (B : Option Addr) (m cb : Nat) (w : World) (hv : VF C S P) (hla : LtAll S a) (hlb : LtAll S b) (hta : Trimmed a) (htb : Trimmed b) (hna : a.length ≤ 4097) (hnb : b.length ≤ 4097) (hs : (S : Int) ≤ 9223372036854775807) (hp : (P : Int) ≤ 9223372036854775807)
    (hn0 : 0 < n) (hm0 : 0 < m) (hsm : n + m ≤ 4098)
    (hq : (⟨A, n, ca, zl a⟩ : Sl).R w) (hr : (⟨B, m, cb, zl b⟩ : Sl).R w) :
    Calls Try.prog 16 #[fldv C S P, .slice A n ca, .slice B m cb] w (RetL w (zl (mulL S P a b), 0)) := by
  have hbx : Below w.heap.size w (w.alloc (fldB C S P)) := (Below.refl _ _).alloc (Nat.le_refl _) _
  have HQ := Lib.hid (hq.below hbx)
  have HR := Lib.hid (hr.below hbx)
  have HA : Hid (RD w A (zl a)) := hq.rd
  have HB : Hid (RD w B (zl b)) := hr.rd
  have CB : Hid (CellsAt (w.alloc (fldB C S P)) w.heap.size (fldC C S P)) := CellsAt.new _ _ _ _ rfl
  have HVA : Hid (pvB C S P (zl a) = true) := by show _ = _; unfold pvB; rw [vld_of hv, polB_zl hla hna hta]; rfl
  have HVB : Hid (pvB C S P (zl b) = true) := by show _ = _; unfold pvB; rw [vld_of hv, polB_zl hlb hnb htb]; rfl
  have hnn : n = a.length := hq.hn.trans (zl_length a)
  have hmm : m = b.length := hr.hn.trans (zl_length b)
  obtain ⟨T, hT⟩ : ∃ T, T = n + m - 1 := ⟨_, rfl⟩
  have hmk := run_make_row' (P := Try.prog) 24 3 (.int .i64 0) 8 Try.underlying24 intInfo rfl .i64 .i64 T (by omega) (by omega)
  have hs2 : ((n : Int) + m - 1) = (T : Int) := by omega
  have hd3 : decide ((4096 : Int) < (n : Int) + m - 2) = false := by simp; omega
  have HV := Lib.hid hv
  have HLA := Lib.hid hla
  have HLB := Lib.hid hlb
  have HTT := Lib.hid hT
  have HRM : Hid (zl (trimL (accL S P a b n 0)) = zl (mulL S P a b)) := by
    show _ = _
    rw [← mulL_trim hv hla hlb hta htb]
    congr 2
    unfold mulL; rw [if_neg, hnn]
    rintro (e | e)
    · rw [e] at hnn; simp at hnn; omega
    · rw [e] at hmm; simp at hmm; omega
  have HZ : Hid (accL S P a b 0 0 = List.replicate T 0) := by show _ = _; rw [accL_start hv, hT, hnn, hmm]
  have HLEN : Hid (∀ i j, (accL S P a b i j).length = T) := fun i j => by rw [accL_length, hT, hnn, hmm]
  have HSTEP : Hid (∀ (i j : Nat), i < n → j < m → (accL S P a b i j).set (i + j) (faddN S P ((accL S P a b i j).getD (i + j) 0) (fmulN S P (a.getD i 0) (b.getD j 0))) = accL S P a b i (j + 1)) := fun i j hi hj => accL_step hv a b (by omega) (by omega)
  have HNEXT : Hid (∀ i, accL S P a b i m = accL S P a b (i + 1) 0) := fun i => by rw [hmm]; exact accL_next hv a b hla hlb i
  have HLT : Hid (∀ i j, LtAll S (accL S P a b i j)) := accL_lt hv a b
  have z1 : ((n : Int) == 0) = false := by rw [beq_eq_false_iff_ne]; omega
  have z2 : ((m : Int) == 0) = false := by rw [beq_eq_false_iff_ne]; omega
  have hT1 : 1 ≤ T := by omega
  have hT2 : T ≤ 8193 := by omega
  have hT3 : Hid (∀ i j : Nat, i < n → j < m → i + j < T) := by show ∀ i j : Nat, _; omega
  have hn7 : n ≤ 4097 := by omega
  have hm7 : m ≤ 4097 := by omega
  have HNN := Lib.hid hnn
  have HMM := Lib.hid hmm
  clear hv hla hlb hta htb hna hnb hnn hmm hq hr hbx hT hsm
  go_enter Try.func16, Try.ntmps16
  go_wp2_with (first
    | (go_at_call 46; ((with_reducible refine (rpValid_n C S P A n ca (zl a) _ hs hp HQ.out).mono ?_); rintro e w1 ⟨rfl, hb1⟩; rw [HVA.out]; have HB1 := Lib.hid hb1; clear hb1; obtain ⟨f0, f1, f2⟩ := fldC_cells (CB.out.below HB1.out)))
    | (go_at_call 46; refine (rpValid_n C S P B m cb (zl b) _ hs hp (HR.out.below HB1.out)).mono ?_; rintro e w2 ⟨rfl, hb2⟩; rw [HVB.out]; have HB2 := Lib.hid (bwStep HB1.out hb2); clear hb2 f0 f1 f2))
  clear hs2 hd3
  have HS0 : Hid (OutG w (w2.alloc (.cells (madeCells #[Value.int .i64 0] T) 3)) (fldC C S P) w2.heap.size (accL S P a b 0 0)) := by
    have hl := HB2.out.size
    simp at hl
    rw [HZ.out]
    exact ⟨bwAlloc (bw1 HB2.out) _, (CB.out.below HB2.out).alloc _, RowAt.made _ _ _ _ rfl, by omega⟩
  clear hmk
  generalize w2.alloc (.cells (madeCells #[Value.int .i64 0] T) 3) = w3 at *
  generalize w2.heap.size = g at *
  go_loopw [9] (fun i wr => ∃ k : Nat, k ≤ n ∧ i = .int .i64 k ∧ Hid (OutG w wr (fldC C S P) g (accL S P a b k 0))) (fun i _ => n - (intOf i).toNat)
  case atStart => exact ⟨0, Nat.zero_le _, rfl, HS0⟩
  case round =>
    obtain ⟨k, hk, rfl, hO⟩ := hrel
    by_cases hlt : k < n
    · obtain ⟨ad, rfl, hadw, hca⟩ := HA.out (by rw [zl_length, ← HNN.out]; omega)
      have HX : Hid (a.getD k 0 < S) := HLA.out k
      have HAC : Hid (∀ W, Abv w W → W.cell? (ad.add k) = some (.int .i64 ((a.getD k 0 : Nat) : Int))) := by
        show ∀ W, _
        intro W hW
        rw [hW.cell (by rw [block_of_add]; exact hadw), hca k (by rw [zl_length, ← HNN.out]; exact hlt), zl_getD]
      clear hca
      generalize hxe : a.getD k 0 = x at *
      have HXE := Lib.hid hxe
      clear hxe
      go_wp2
      obtain ⟨wo, rfl⟩ : ∃ wo : World, wo = wr := ⟨_, rfl⟩
      go_loopw [10] (fun j wr => ∃ q : Nat, q ≤ m ∧ j = .int .i64 q ∧ Hid (OutG w wr (fldC C S P) g (accL S P a b k q))) (fun j _ => m - (intOf j).toNat)
      case atStart => exact ⟨0, Nat.zero_le _, rfl, hO⟩
      case round =>
        obtain ⟨q, hq, rfl, hO2⟩ := hrel
        by_cases hlt2 : q < m
        · obtain ⟨bd, rfl, hbdw, hcb⟩ := HB.out (by rw [zl_length, ← HMM.out]; omega)
          have HY : Hid (b.getD q 0 < S) := HLB.out q
          have hkq : k + q < T := hT3.out k q hlt hlt2
          have HSTQ : Hid (_ = _) := HSTEP.out k q hlt hlt2
          rw [HXE.out] at HSTQ
          have HU : Hid ((accL S P a b k q).getD (k + q) 0 < S) := HLT.out k q _
          have hOc := hO2.out.O.2 (k + q) (by rw [HLEN.out]; omega)
          have HBC : Hid (∀ W, Abv w W → W.cell? (bd.add q) = some (.int .i64 ((b.getD q 0 : Nat) : Int))) := by
            show ∀ W, _
            intro W hW
            rw [hW.cell (by rw [block_of_add]; exact hbdw), hcb q (by rw [zl_length, ← HMM.out]; exact hlt2), zl_getD]
          generalize hye : b.getD q 0 = y at *
          generalize hue : (accL S P a b k q).getD (k + q) 0 = u at *
          have CF : Hid (∀ W, Abv wr W → (W.cell? ⟨w.heap.size, 0, none⟩ = some (.int .i64 C) ∧ W.cell? ⟨w.heap.size, 1, none⟩ = some (.int .i64 S) ∧ W.cell? ⟨w.heap.size, 2, none⟩ = some (.int .i64 P)) ∧ W.cell? ⟨g, k + q, none⟩ = some (.int .i64 (u : Int)) ∧ W.cell? (ad.add k) = some (.int .i64 (x : Int)) ∧ W.cell? (bd.add q) = some (.int .i64 (y : Int)) ∧ W.frozen? ⟨g, k + q, none⟩ = false) := by
            show ∀ W, _
            intro W hW
            exact ⟨fldC_cells (hO2.out.X.below hW), (hW.cell hO2.out.O.1).trans hOc.1, HAC.out W (bwStep hO2.out.B hW), HBC.out W (bwStep hO2.out.B hW), (hW.frozen hO2.out.O.1).trans hOc.2⟩
          clear hye hue hcb hOc
          have hi1 : (0 : Int) ≤ (k : Int) + q := by omega
          have hi2 : (k : Int) + q < (T : Int) := by omega
          have hto : ((k : Int) + q).toNat = k + q := by omega
          have hwr : IntKind.i64.wrap ((k : Int) + q) = (k : Int) + q := wr64 _ (by omega) (by omega)
          go_wp2
          refine wp_region_S (S := Abv wr) 23 (by kernel_rfl) (by kernel_rfl) (bwDrew (Below.refl _ _)) ?_
          simp only [List.take_succ_cons, List.take_zero, List.drop_succ_cons, List.drop_zero]
          repeat
            refine' wpHS_val rfl (fun W hW => ?_) ?_
            rotate_left
            · have hcf := CF.out W hW; go_simp; rfl
            simp only [Act.put, List.setIfInBounds_toArray, List.set_cons_zero, List.set_cons_succ]
          refine' wpHS_call rfl (fun W => ?_) (fun W hW => ?_) ?_
          rotate_left 3
          · go_simp; exact ⟨rfl, rfl⟩
          · exact (rftimes_any C S P x y W HV.out HX.out HY.out).mono (fun e W1 h => ⟨h.1, bwStep hW h.2⟩)
          simp only [Act.put, List.setIfInBounds_toArray, List.set_cons_zero, List.set_cons_succ]
          repeat
            refine' wpHS_val rfl (fun W hW => ?_) ?_
            rotate_left
            · have hcf := CF.out W hW; go_simp; rfl
            simp only [Act.put, List.setIfInBounds_toArray, List.set_cons_zero, List.set_cons_succ]
          refine' wpHS_call rfl (fun W => ?_) (fun W hW => ?_) ?_
          rotate_left 3
          · go_simp; exact ⟨rfl, rfl⟩
          · exact (rfplus_any C S P u (fmulN S P x y) W HV.out HU.out (fmul_lt HV.out _ _)).mono (fun e W1 h => ⟨h.1, bwStep hW h.2⟩)
          simp only [Act.put, List.setIfInBounds_toArray, List.set_cons_zero, List.set_cons_succ]
          repeat
            refine' wpHS_val rfl (fun W hW => ?_) ?_
            rotate_left
            · have hcf := CF.out W hW; go_simp; rfl
            simp only [Act.put, List.setIfInBounds_toArray, List.set_cons_zero, List.set_cons_succ]
          refine wpHS_nil ?_
          intro w4 hb1
          have HB4 := Lib.hid hb1
          clear hb1
          obtain ⟨-, st1, -, -, st2⟩ := CF.out w4 HB4.out
          go_wp2
          clear hwr
          exact ⟨⟨q + 1, by omega, by go_num, by rw [← HSTQ.out]; exact (hO2.out.below HB4.out).set _ _⟩, by simp [intOf]; omega⟩
        · obtain rfl : q = m := by omega
          go_wp2
          exact ⟨⟨k + 1, by omega, by go_num, by rw [← HNEXT.out]; exact hO2⟩, by simp [intOf]; omega⟩
    · obtain rfl : k = n := by omega
      go_wp2_with (go_at_call 47; refine (rTrim_n (accL S P a b k 0) T (HLEN.out _ _).symm _ _ _ (by omega) (Nat.le_refl _) hO.out.O.rd).mono ?_; rintro e w5 ⟨v5, rfl, hI, hb5⟩; have HI := Lib.hid hI; have HB5 := Lib.hid hb5; clear hI hb5)
      go_ret2
      exact RetL.mk rfl (by rw [← HRM.out]; exact HI.out) (bwStep hO.out.B HB5.out)
end Go.Proofs.Ythpcneeidhmdkaa
namespace Go.Proofs.Ythpcneeidhmdkaa
open Go.RowKit
set_option linter.unusedVariables false
theorem pvB_false {c s p : Int} {xs ys : List Int} (h : (pvB c s p xs && pvB c s p ys) = false) : pvB c s p xs = false ∨ (pvB c s p xs = true ∧ pvB c s p ys = false) := by
  cases h1 : pvB c s p xs
  · exact .inl rfl
  · rw [h1] at h; exact .inr ⟨rfl, by simpa using h⟩
set_option maxHeartbeats 1000000 in
theorem rMul_any (c s p : Int) (q r : Sl) (w : World) (hs : s ≤ 9223372036854775807) (hp : p ≤ 9223372036854775807) (hq : q.R w) (hr : r.R w) :
    Calls Try.prog 16 #[fldv c s p, q.v, r.v] w (RetL w (mulRes c s p q.xs r.xs)) := by
  obtain ⟨A, n, ca, xs⟩ := q
  obtain ⟨B, m, cb, ys⟩ := r
  have hbx : Below w.heap.size w (w.alloc (fldB c s p)) := (Below.refl _ _).alloc (Nat.le_refl _) _
  have HQ := Lib.hid (hq.below hbx)
  have HR := Lib.hid (hr.below hbx)
  show Calls Try.prog 16 #[fldv c s p, .slice A n ca, .slice B m cb] w (RetL w (mulRes c s p xs ys))
  have CB : Hid (CellsAt (w.alloc (fldB c s p)) w.heap.size (fldC c s p)) := CellsAt.new _ _ _ _ rfl
  cases hV : (pvB c s p xs && pvB c s p ys) with
  | false =>
    have HF : Hid (mulRes c s p xs ys = ([], 1)) := by show _ = _; unfold mulRes; rw [hV]; rfl
    rcases pvB_false hV with h1 | ⟨h1, h2⟩
    · have H1 := Lib.hid h1
      clear hV h1 hq hr hbx
      go_enter Try.func16, Try.ntmps16
      go_wp2_with (go_at_call 46; refine (rpValid_n c s p A n ca xs _ hs hp HQ.out).mono ?_; rintro e w1 ⟨rfl, hb1⟩; rw [H1.out]; have HB1 := Lib.hid hb1; clear hb1)
      go_ret2
      exact RetL.mk HF.out (Ints.nil_ _) (bw1 HB1.out)
    · have H1 := Lib.hid h1
      have H2 := Lib.hid h2
      clear hV h1 h2 hq hr hbx
      go_enter Try.func16, Try.ntmps16
      go_wp2_with (first
        | (go_at_call 46; ((with_reducible refine (rpValid_n c s p A n ca xs _ hs hp HQ.out).mono ?_); rintro e w1 ⟨rfl, hb1⟩; rw [H1.out]; have HB1 := Lib.hid hb1; clear hb1; obtain ⟨f0, f1, f2⟩ := fldC_cells (CB.out.below HB1.out)))
        | (go_at_call 46; refine (rpValid_n c s p B m cb ys _ hs hp (HR.out.below HB1.out)).mono ?_; rintro e w2 ⟨rfl, hb2⟩; rw [H2.out]; have HB2 := Lib.hid (bwStep HB1.out hb2); clear hb2 f0 f1 f2))
      go_ret2
      exact RetL.mk HF.out (Ints.nil_ _) (bw1 HB2.out)
  | true =>
    have hV' := hV
    rw [Bool.and_eq_true] at hV'
    obtain ⟨C, S, P, a, rfl, rfl, rfl, rfl, hv, hla, hta, hna⟩ := pvB_nat hV'.1
    obtain ⟨C', S', P', b, e1, e2, e3, rfl, -, hlb, htb, hnb⟩ := pvB_nat hV'.2
    obtain rfl : S = S' := by omega
    have hnn : n = a.length := hq.hn.trans (zl_length a)
    have hmm : m = b.length := hr.hn.trans (zl_length b)
    have HF : mulRes C S P (zl a) (zl b) = if 1 ≤ n ∧ 1 ≤ m ∧ 4098 < n + m then ([], 4) else (zl (mulL S P a b), 0) := by
      unfold mulRes; rw [hV, if_pos rfl, zl_length, zl_length, nl_zl, nl_zl, ← hnn, ← hmm]; rfl
    by_cases hne : 0 < n ∧ 0 < m
    · by_cases hlong : n + m ≤ 4098
      · rw [HF, if_neg (by omega)]
        exact rMul_yes C S P a b A n ca B m cb w hv hla hlb hta htb hna hnb hs hp hne.1 hne.2 hlong hq hr
      · have HF2 : Hid (mulRes C S P (zl a) (zl b) = ([], 4)) := by show _ = _; rw [HF, if_pos (by omega)]
        have H1 := Lib.hid hV'.1
        have H2 := Lib.hid hV'.2
        have hd3 : decide ((4096 : Int) < (n : Int) + m - 2) = true := by simp; omega
        have z1 : ((n : Int) == 0) = false := by rw [beq_eq_false_iff_ne]; omega
        have z2 : ((m : Int) == 0) = false := by rw [beq_eq_false_iff_ne]; omega
        have hn7 : n ≤ 4097 := by omega
        have hm7 : m ≤ 4097 := by omega
        clear hV hV' e1 e2 e3 hv hla hlb hta htb hna hnb hnn hmm hq hr hbx HF hne hlong
        go_enter Try.func16, Try.ntmps16
        go_wp2_with (first
          | (go_at_call 46; ((with_reducible refine (rpValid_n C S P A n ca _ _ hs hp HQ.out).mono ?_); rintro e w1 ⟨rfl, hb1⟩; rw [H1.out]; have HB1 := Lib.hid hb1; clear hb1; obtain ⟨f0, f1, f2⟩ := fldC_cells (CB.out.below HB1.out)))
          | (go_at_call 46; refine (rpValid_n C S P B m cb _ _ hs hp (HR.out.below HB1.out)).mono ?_; rintro e w2 ⟨rfl, hb2⟩; rw [H2.out]; have HB2 := Lib.hid (bwStep HB1.out hb2); clear hb2 f0 f1 f2))
        go_ret2
        exact RetL.mk HF2.out (Ints.nil_ _) (bw1 HB2.out)
    · have HF2 : Hid (mulRes C S P (zl a) (zl b) = ([], 0)) := by
        show _ = _
        rw [HF, if_neg (by omega)]
        have : mulL S P a b = [] := by
          unfold mulL
          rw [if_pos]
          by_cases h0 : n = 0
          · exact .inl (List.eq_nil_of_length_eq_zero (by omega))
          · exact .inr (List.eq_nil_of_length_eq_zero (by omega))
        rw [this]; rfl
      have H1 := Lib.hid hV'.1
      have H2 := Lib.hid hV'.2
      have hn7 : n ≤ 4097 := by omega
      have hm7 : m ≤ 4097 := by omega
      have hcase : n = 0 ∨ (0 < n ∧ m = 0) := by omega
      clear hV hV' e1 e2 e3 hv hla hlb hta htb hna hnb hnn hmm hq hr hbx HF hne
      rcases hcase with rfl | ⟨h1, rfl⟩
      · go_enter Try.func16, Try.ntmps16
        go_wp2_with (first
          | (go_at_call 46; ((with_reducible refine (rpValid_n C S P A 0 ca _ _ hs hp HQ.out).mono ?_); rintro e w1 ⟨rfl, hb1⟩; rw [H1.out]; have HB1 := Lib.hid hb1; clear hb1; obtain ⟨f0, f1, f2⟩ := fldC_cells (CB.out.below HB1.out)))
          | (go_at_call 46; refine (rpValid_n C S P B m cb _ _ hs hp (HR.out.below HB1.out)).mono ?_; rintro e w2 ⟨rfl, hb2⟩; rw [H2.out]; have HB2 := Lib.hid (bwStep HB1.out hb2); clear hb2 f0 f1 f2))
        go_ret2
        exact RetL.mk HF2.out (Ints.nil_ _) (bw1 HB2.out)
      · have z1 : ((n : Int) == 0) = false := by rw [beq_eq_false_iff_ne]; omega
        go_enter Try.func16, Try.ntmps16
        go_wp2_with (first
          | (go_at_call 46; ((with_reducible refine (rpValid_n C S P A n ca _ _ hs hp HQ.out).mono ?_); rintro e w1 ⟨rfl, hb1⟩; rw [H1.out]; have HB1 := Lib.hid hb1; clear hb1; obtain ⟨f0, f1, f2⟩ := fldC_cells (CB.out.below HB1.out)))
          | (go_at_call 46; refine (rpValid_n C S P B 0 cb _ _ hs hp (HR.out.below HB1.out)).mono ?_; rintro e w2 ⟨rfl, hb2⟩; rw [H2.out]; have HB2 := Lib.hid (bwStep HB1.out hb2); clear hb2 f0 f1 f2))
        go_ret2
        exact RetL.mk HF2.out (Ints.nil_ _) (bw1 HB2.out)
theorem pMul_n (c s p : Int) (A : Option Addr) (n ca : Nat) (xs : List Int) (B : Option Addr) (m cb : Nat) (ys : List Int) (w : World) (hp : p ≤ 9223372036854775807) (hq : (⟨A, n, ca, xs⟩ : Sl).R w) (hr : (⟨B, m, cb, ys⟩ : Sl).R w) :
    Calls Try.prog 15 #[fldv c s p, .slice A n ca, .slice B m cb] w (RetL w (mulRes c s p xs ys)) := pMul_any c s p ⟨A, n, ca, xs⟩ ⟨B, m, cb, ys⟩ w hp hq hr
theorem rMul_n (c s p : Int) (A : Option Addr) (n ca : Nat) (xs : List Int) (B : Option Addr) (m cb : Nat) (ys : List Int) (w : World) (hs : s ≤ 9223372036854775807) (hp : p ≤ 9223372036854775807) (hq : (⟨A, n, ca, xs⟩ : Sl).R w) (hr : (⟨B, m, cb, ys⟩ : Sl).R w) :
    Calls Try.prog 16 #[fldv c s p, .slice A n ca, .slice B m cb] w (RetL w (mulRes c s p xs ys)) := rMul_any c s p ⟨A, n, ca, xs⟩ ⟨B, m, cb, ys⟩ w hs hp hq hr
end Go.Proofs.Ythpcneeidhmdkaa
namespace Go.Proofs.Ythpcneeidhmdkaa
open Go.ChangeShapes Go.WideShapes Go.ChangeAt Go.RowKit
set_option linter.unusedVariables false
/-! the frame of a law: any arguments that are only read, the answer true -/
theorem below_all {H : Type} {enc : TypeId × Value → H} {P : Program} (hl : laidOutB P = true) {W W' : World} (hb : Below W.heap.size W W') :
    ∀ (ts : List TypeId) (vs : List Value) (ds : List (DataW H)) (ps : List MemPlace), (∀ t ∈ ts, P.readableRec t = true ∧ t < P.types.size) →
      DataW.TrodAll enc P W 0 (fun _ => true) true ts vs ds ps → (∀ x ∈ ps, x.block < W.heap.size) →
      DataW.TrodAll enc P W' 0 (fun b => decide (b < W.heap.size)) true ts vs ds ps := by
  intro ts
  induction ts with
  | nil =>
    intro vs ds ps _ h _
    cases vs <;> cases ds <;> first | exact h | exact h.elim
  | cons t ts ih =>
    intro vs ds ps ht h hlt
    cases vs with
    | nil => cases ds <;> exact h.elim
    | cons v vs =>
      cases ds with
      | nil => exact h.elim
      | cons d ds =>
        obtain ⟨p, q, h1, h2, rfl⟩ := h
        have hr := ht t (by simp)
        exact ⟨p, q, Below.trod hl hr.1 hr.2 h1 hb (fun x hx => hlt x (by simp [hx])), ih vs ds q (fun t' h' => ht t' (by simp [h'])) h2 (fun x hx => hlt x (by simp [hx])), rfl⟩
theorem law_post {H : Type} {enc : TypeId × Value → H} {P : Program} (hl : laidOutB P = true) {f : Func} {s : ChangeSpec} {W W' : World} {args : Array Value} {ds gs : List (DataW H)} {before : List MemPlace} {B : TypeId}
    (hB : P.underlying B = some .bool) (hres : f.resultTypes = #[B]) (hvars : s.vars = []) (hrd : ∀ t ∈ f.params.toList, P.readableRec t = true ∧ t < P.types.size)
    (hW : DataW.Whole enc P f.params.toList s.vars false W args.toList ds gs before)
    (hs : s.fn H (ds ++ gs) = { results := [.lit (.bool true)], args := ds }) (hb : Below W.heap.size W W') :
    s.post enc P f false true false false W args (.bool true) W' := by
  have hlt := hW.lt
  obtain ⟨p, q, hA, hV, rfl, hfz, hnd⟩ := id hW
  refine ⟨ds, gs, p ++ q, [], p, q, hW, ?_, ?_, ?_, hb.frame _, fun h => by cases h⟩
  · rw [hs, hres]
    exact trodAll_cons_mk (shut_bool hB _) trodAll_mk0
  · rw [hs]
    exact below_all hl hb _ _ _ _ hrd hA (fun x hx => hlt x (by simp [hx]))
  · rw [hs]
    rw [hvars] at hV ⊢
    obtain ⟨rfl, rfl⟩ := trodVars_none hV
    rfl
theorem bd_i64 {a : Int} (h : (Lit.int .i64 a).wf = true) : -9223372036854775808 ≤ a ∧ a ≤ 9223372036854775807 := by
  simpa [Lit.wf, IntKind.min, IntKind.max, IntKind.signed, IntKind.bits] using h
theorem array6 {α : Type} {xs : Array α} (h : xs.size = 6) : ∃ a b c d e f, xs = #[a, b, c, d, e, f] := by
  obtain ⟨l⟩ := xs
  match l, h with
  | [a, b, c, d, e, f], _ => exact ⟨a, b, c, d, e, f, rfl⟩
abbrev I64 (a : Int) : Prop := -9223372036854775808 ≤ a ∧ a ≤ 9223372036854775807
theorem open_fld {H : Type} {enc : TypeId × Value → H} {W : World} {base b0 : Nat} {sp : Nat → Bool} {held : Bool} {r : Reach} {v : Value} {d : DataW H} {p : List MemPlace}
    (hv : Value.okWide Try.prog W r b0 23 v) (h : DataW.Trod enc Try.prog W base sp held 23 v d p) :
    ∃ c s q : Int, v = .agg #[.int .i64 c, .int .i64 s, .int .i64 q] ∧ I64 c ∧ I64 s ∧ I64 q := by
  obtain ⟨v0, v1, v2, y0, y1, y2, n, rfl, -, -, h0, h1, h2⟩ := Joins.open_agg3 Try.underlying23 (by kernel_rfl) (by kernel_rfl) hv h
  obtain ⟨a, e0, -, wa⟩ := DataW.trod_int Try.underlying3 h0
  obtain ⟨b, e1, -, wb⟩ := DataW.trod_int Try.underlying3 h1
  obtain ⟨c, e2, -, wc⟩ := DataW.trod_int Try.underlying3 h2
  simp at e0 e1 e2
  subst e0 e1 e2
  exact ⟨a, b, c, rfl, bd_i64 wa, bd_i64 wb, bd_i64 wc⟩
end Go.Proofs.Ythpcneeidhmdkaa
namespace Go.Proofs.Ythpcneeidhmdkaa
open Go.ChangeShapes Go.WideShapes Go.ChangeAt Go.RowKit
set_option linter.unusedVariables false
theorem cell_lt {w : World} {a : Addr} {v : Value} (h : w.cell? a = some v) : a.block < w.heap.size := by
  rcases Nat.lt_or_ge a.block w.heap.size with h1 | h1
  · exact h1
  · unfold World.cell? at h
    rw [Array.getElem?_eq_none h1] at h
    cases h
theorem open_sl {H : Type} {enc : TypeId × Value → H} {W : World} {b0 : Nat} {r : Reach} {v : Value} {d : DataW H} {p : List MemPlace}
    (hv : Value.okWide Try.prog W r b0 24 v) (h : DataW.Trod enc Try.prog W 0 (fun _ => true) true 24 v d p) : ∃ q : Sl, v = q.v ∧ q.R W := by
  obtain ⟨a0, len0, cap0, rfl⟩ := okWide_slice Try.underlying24 hv
  obtain ⟨fuel, hf⟩ := h
  rcases open_ints Try.underlying24 Try.underlying3 (by kernel_rfl) hf with ⟨hcs, _⟩ | ⟨a, len, cap, zs, hcs, _, hl, hm, hz, _, hcell, _⟩
  · simp [Value.cells] at hcs
    obtain ⟨rfl, rfl, rfl⟩ := hcs
    exact ⟨⟨none, 0, 0, []⟩, rfl, ⟨rfl, by simp only; omega, RD.nil_ _ _, Nat.le_refl _, by simp only; unfold maxLen; omega⟩⟩
  · simp [Value.cells] at hcs
    obtain ⟨rfl, rfl, rfl⟩ := hcs
    simp only [if_true] at hz
    refine ⟨⟨some a, len0, cap0, zs.take len0⟩, rfl, ⟨?_, ?_, ?_, hl, hm⟩⟩
    · simp only [List.length_take]; omega
    · simp only; unfold maxLen at hm; omega
    · intro hn
      have hlen : (zs.take len0).length = len0 := by rw [List.length_take]; omega
      simp only at hn ⊢
      rw [hlen] at hn
      have h0 := hcell 0 (by omega)
      refine ⟨a, rfl, ?_, fun j hj => ?_⟩
      · have := cell_lt h0
        rw [block_of_add] at this; exact this
      · rw [hlen] at hj
        rw [hcell j (by omega)]
        simp [List.getD, hj]
end Go.Proofs.Ythpcneeidhmdkaa
