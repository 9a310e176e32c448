import Derived.Test.YthpcneeidhmdkaaM12
namespace Go.Proofs.Ythpcneeidhmdkaa
open Go.RowKit
set_option linter.unusedVariables false
/-! the law's own test of its polynomials -/
def lvB (c s p : Int) (most : Nat) (xs : List Int) : Bool := decide (xs.length ≤ most) && pvB c s p xs
theorem lvB_nat {c s p : Int} {most : Nat} {xs : List Int} (h : lvB c s p most xs = true) : ∃ (C S P : Nat) (l : List Nat), c = C ∧ s = S ∧ p = P ∧ xs = zl l ∧ VF C S P ∧ LtAll S l ∧ Trimmed l ∧ l.length ≤ most := by
  unfold lvB at h
  rw [Bool.and_eq_true, decide_eq_true_eq] at h
  obtain ⟨C, S, P, l, rfl, rfl, rfl, rfl, h1, h2, h3, h4⟩ := pvB_nat h.2
  exact ⟨C, S, P, l, rfl, rfl, rfl, rfl, h1, h2, h3, by have := h.1; rwa [zl_length] at this⟩
set_option maxHeartbeats 1000000 in
theorem lvalid_any (c s p : Int) (most : Nat) (V : Option Addr) (m cv : Nat) (ps : List Sl) (w : World) (hm : m = ps.length) (hm2 : m ≤ 1000) (hmo : most ≤ 4000) (hp : p ≤ 9223372036854775807) (hs : Sls w V ps) :
    Calls Try.prog 20 #[fldv c s p, .int .i64 most, .slice V m cv] w fun e w' => e = .returned (.bool (ps.all fun q => lvB c s p most q.xs)) ∧ Below w.heap.size w w' := by
  have CB : Hid (CellsAt (w.alloc (fldB c s p)) w.heap.size (fldC c s p)) := CellsAt.new _ _ _ _ rfl
  have HS := Lib.hid (hs.below ((Below.refl _ _).alloc (Nat.le_refl _) (fldB c s p)))
  have HM := Lib.hid hm
  clear hm hs
  go_enter Try.func20, Try.ntmps20
  go_wp2
  go_loopw [11] (fun i wr => ∃ k : Nat, k ≤ m ∧ i = .int .i64 k ∧ Hid (∀ j, j < k → lvB c s p most (ps.getD j default).xs = true) ∧ Hid (Below (w.alloc (fldB c s p)).heap.size (w.alloc (fldB c s p)) wr)) (fun i _ => m - (intOf i).toNat)
  case atStart => exact ⟨0, Nat.zero_le _, rfl, fun j hj => by omega, Below.refl _ _⟩
  case round =>
    obtain ⟨k, hk, rfl, hid, hbw⟩ := hrel
    by_cases hlt : k < m
    · obtain ⟨b, rfl, -, hc⟩ := (HS.out.below hbw.out).rd (by rw [← HM.out]; omega)
      have hx := hc k (by rw [← HM.out]; exact hlt)
      have HQ := Lib.hid ((HS.out.below hbw.out).at_ (k := k) (by rw [← HM.out]; exact hlt))
      have HST : Hid (lvB c s p most (ps.getD k default).xs = false → ps.all (fun q => lvB c s p most q.xs) = false) := fun h => all_step (f := fun q => lvB c s p most q.xs) (by rw [← HM.out]; exact hlt) h
      obtain ⟨hf0, hf1, hf2⟩ := fldC_cells (CB.out.below hbw.out)
      clear hc
      generalize hqe : ps.getD k default = q at *
      have HQE := Lib.hid hqe
      clear hqe
      obtain ⟨A, n, ca, xs⟩ := q
      have hn63 := HQ.out.hm
      have hnn := HQ.out.hn
      simp only [Sl.v] at hx hn63 hnn
      have HNN := Lib.hid hnn
      clear hnn
      have FALSE : Hid (lvB c s p most xs = false → Value.bool false = .bool (ps.all fun q => lvB c s p most q.xs)) := fun h => by rw [HST.out h]
      have NEXT : Hid (lvB c s p most xs = true → ∀ j, j < k + 1 → lvB c s p most (ps.getD j default).xs = true) := fun h j hj => by
        by_cases hjk : j = k
        · subst hjk; rw [HQE.out]; exact h
        · exact hid.out j (by omega)
      by_cases hbig : most < n
      · have HF := Lib.hid (FALSE.out (by unfold lvB; rw [← HNN.out, show decide (n ≤ most) = false from by simp; omega]; rfl))
        have z1 : decide (most < n) = true := by simp; omega
        clear hbig
        go_wp2
        go_ret
        exact ⟨congrArg Ending.returned HF.out, bw1 hbw.out⟩
      · have z1 : decide (most < n) = false := by simp; omega
        have hle : n ≤ most := by omega
        have HL : Hid (lvB c s p most xs = pvB c s p xs) := by show _ = _; unfold lvB; rw [← HNN.out, show decide (n ≤ most) = true from by simp; omega]; rfl
        clear hbig hn63
        have HPV : Hid (Calls Try.prog 45 #[fldv c s p, .slice A n ca] wr fun e w' => e = .returned (.bool (pvB c s p xs)) ∧ Below wr.heap.size wr w') := pValid_any c s p ⟨A, n, ca, xs⟩ wr hp HQ.out
        cases hI : pvB c s p xs with
        | true =>
          have HI := Lib.hid hI
          have HN2 := Lib.hid (NEXT.out (HL.out.trans hI))
          clear hI
          go_wp2_with (go_at_call 45; refine HPV.out.mono ?_; rintro e w2 ⟨rfl, hb2⟩; rw [HI.out]; have HB2 := Lib.hid hb2; clear hb2)
          exact ⟨⟨k + 1, by omega, by go_num, HN2.out, bwStep hbw.out HB2.out⟩, by simp [intOf]; omega⟩
        | false =>
          have HI := Lib.hid hI
          have HF := Lib.hid (FALSE.out (HL.out.trans hI))
          clear hI
          go_wp2_with (go_at_call 45; refine HPV.out.mono ?_; rintro e w2 ⟨rfl, hb2⟩; rw [HI.out]; have HB2 := Lib.hid hb2; clear hb2)
          go_ret
          exact ⟨congrArg Ending.returned HF.out, bw1 (bwStep hbw.out HB2.out)⟩
    · obtain rfl : k = m := by omega
      have HI := Lib.hid (all_end (ps := ps) (f := fun q => lvB c s p most q.xs) (by rw [← HM.out]; exact hid.out))
      go_wp2
      go_ret
      exact ⟨ret_bool HI.out.symm, bw1 hbw.out⟩
theorem lvalid1 (c s p : Int) (most : Nat) (mo : Int) (hmm : mo = (most : Int)) (A : Option Addr) (n ca : Nat) (xs : List Int) (b : Nat) (w : World) (t : TypeId) (hmo : most ≤ 4000) (hp : p ≤ 9223372036854775807) (hb : b = w.heap.size) (hq : (⟨A, n, ca, xs⟩ : Sl).R w) :
    Calls Try.prog 20 #[fldv c s p, .int .i64 mo, .slice (some ⟨b, 0, none⟩) 1 1] (w.alloc (.cells #[.slice A n ca] t)) fun e w' => e = .returned (.bool (lvB c s p most xs)) ∧ Below (w.alloc (.cells #[.slice A n ca] t)).heap.size (w.alloc (.cells #[.slice A n ca] t)) w' := by
  subst hmm
  refine (lvalid_any c s p most _ 1 1 [⟨A, n, ca, xs⟩] _ rfl (by omega) hmo hp (Sls.one t b hb hq)).mono fun e w' ⟨h, hb⟩ => ⟨?_, hb⟩
  rw [h]; simp
theorem lvalid2 (c s p : Int) (most : Nat) (mo : Int) (hmm : mo = (most : Int)) (A B : Option Addr) (n ca m cb : Nat) (xs ys : List Int) (b : Nat) (w : World) (t : TypeId) (hmo : most ≤ 4000) (hp : p ≤ 9223372036854775807) (hb : b = w.heap.size) (hq : (⟨A, n, ca, xs⟩ : Sl).R w) (hr : (⟨B, m, cb, ys⟩ : Sl).R w) :
    Calls Try.prog 20 #[fldv c s p, .int .i64 mo, .slice (some ⟨b, 0, none⟩) 2 2] (w.alloc (.cells #[.slice A n ca, .slice B m cb] t)) fun e w' => e = .returned (.bool (lvB c s p most xs && lvB c s p most ys)) ∧ Below (w.alloc (.cells #[.slice A n ca, .slice B m cb] t)).heap.size (w.alloc (.cells #[.slice A n ca, .slice B m cb] t)) w' := by
  subst hmm
  refine (lvalid_any c s p most _ 2 2 [⟨A, n, ca, xs⟩, ⟨B, m, cb, ys⟩] _ rfl (by omega) hmo hp (Sls.two t b hb hq hr)).mono fun e w' ⟨h, hb⟩ => ⟨?_, hb⟩
  rw [h]; simp
theorem lvalid3 (c s p : Int) (most : Nat) (mo : Int) (hmm : mo = (most : Int)) (A B D : Option Addr) (n ca m cb k cd : Nat) (xs ys zs : List Int) (b : Nat) (w : World) (t : TypeId) (hmo : most ≤ 4000) (hp : p ≤ 9223372036854775807) (hb : b = w.heap.size) (hq : (⟨A, n, ca, xs⟩ : Sl).R w) (hr : (⟨B, m, cb, ys⟩ : Sl).R w) (hu : (⟨D, k, cd, zs⟩ : Sl).R w) :
    Calls Try.prog 20 #[fldv c s p, .int .i64 mo, .slice (some ⟨b, 0, none⟩) 3 3] (w.alloc (.cells #[.slice A n ca, .slice B m cb, .slice D k cd] t)) fun e w' => e = .returned (.bool (lvB c s p most xs && (lvB c s p most ys && lvB c s p most zs))) ∧ Below (w.alloc (.cells #[.slice A n ca, .slice B m cb, .slice D k cd] t)).heap.size (w.alloc (.cells #[.slice A n ca, .slice B m cb, .slice D k cd] t)) w' := by
  subst hmm
  refine (lvalid_any c s p most _ 3 3 [⟨A, n, ca, xs⟩, ⟨B, m, cb, ys⟩, ⟨D, k, cd, zs⟩] _ rfl (by omega) hmo hp (Sls.three t b hb hq hr hu)).mono fun e w' ⟨h, hb⟩ => ⟨?_, hb⟩
  rw [h]; simp
end Go.Proofs.Ythpcneeidhmdkaa
