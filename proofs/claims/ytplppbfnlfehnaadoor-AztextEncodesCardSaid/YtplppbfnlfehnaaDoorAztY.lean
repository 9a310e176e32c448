import Derived.Test.YtplppbfnlfehnaaDoorAztX
namespace Go.Proofs.YtplppbfnlfehnaaDoor
open Go.RowKit Go.WideMaps Go.Maps
set_option linter.unusedVariables false
/-! a suffix of a slice, at the operation -/
theorem boolElem : Tryd.prog.underlying 24 = some (.slice (Tryd.prog.elem 24)) := by kernel_rfl
theorem boolElemSz (w : World) : (sizeOf (Tryd.prog.elem 24)).run Tryd.prog w = .ok 1 w := by kernel_rfl
theorem exec_sliceB {a : Act} {o : Oper} {W : World} {x i : Operand} (ho : o.op = .slice 24 x (some i) none none) {A : Option Addr} {n c : Nat} {l : List Bool} (hx : a.eval x = .slice A n c) {I : Int} (hi : a.eval i = .int .i64 I) (k : Nat) (hI : I = (k : Int)) (hk : k ≤ n) :
    (execOp a.eval o).run Tryd.prog W = .ok (.value (.slice (if c = k then A else A.map (fun ad => ad.add k)) (n - k) (c - k))) W := by
  subst hI
  have hrun := run_slice_l (P := Tryd.prog) W 24 A n c boolElem .i64 (k : Int) (by omega) (by omega)
  rw [boolElemSz] at hrun
  simp only [Result.andThen_ok, sliced, Int.toNat_natCast, Nat.mul_one] at hrun
  have hat := run_sliceAt_slice (P := Tryd.prog) W 24 (.slice A n c) (some (.int .i64 (k : Int))) none none boolElem
  unfold execOp
  simp only [ho, hx, hi, Option.map_some, Option.map_none, Sem.run_bind, Sem.run_pure, Result.andThen_ok, hat, hrun]
theorem SR.from {w : World} {A : Option Addr} {n c : Nat} {l : List Bool} (h : SR vB false w A n c l) (k : Nat) (hk : k ≤ n) : SR vB false w (if c = k then A else A.map (fun ad => ad.add k)) (n - k) (c - k) (l.drop k) := by
  have hc := h.hc
  rcases Nat.eq_or_lt_of_le hk with e | e
  · exact h.drop hk (.inl e.symm) rfl
  · obtain ⟨ad, e1, _⟩ := h.rd (by rw [← h.hn]; omega)
    rw [if_neg (by omega)]
    exact h.drop hk (.inr ⟨ad, e1, by rw [e1]; rfl⟩) rfl
/-- does the payload end here? -/
def endB (b : List Bool) : Bool := decide (b.length < 12) && b.all id
theorem endB_false {b : List Bool} {k : Nat} (hk : k < b.length) (h : b.getD k false = false) : endB b = false := by
  unfold endB
  rw [all_false (d := false) hk h, Bool.and_false]
theorem endB_true {b : List Bool} (hl : b.length < 12) (h : ∀ j, j < b.length → b.getD j false = true) : endB b = true := by
  unfold endB
  rw [decide_eq_true hl, all_true (d := false) h]; rfl
set_option maxRecDepth 100000 in
set_option maxHeartbeats 2000000 in
theorem ended_any (n : Nat) (w wr : World) (db rb : Nat) (b0 b : List Bool) (mode : Nat) (out : List UInt8) (h : DE n w wr db rb b0 b mode out) (hsf : b0.drop (b0.length - b.length) = b) :
    Calls Tryd.prog 32 #[.pointer (some ⟨db, 0, none⟩)] wr fun e w' => e = .returned (.bool (endB b)) ∧ Below wr.heap.size wr w' := by
  obtain ⟨cur, A0, c0, Ao, co, h1, h2, h3, h4, h5, h6, h7, h8, h9⟩ := h.D
  obtain ⟨A, c, k1, k2, k3⟩ := h.R
  have hlb := h.lb.1
  have hl0 := h.lb.2
  have f1 : wr.cell? ⟨db, 1, none⟩ = some (.pointer (some ⟨rb, 0, none⟩)) := h1.cell 1 _ h4
  have HLeft : Hid (Calls Tryd.prog 48 #[.pointer (some ⟨rb, 0, none⟩)] wr fun e w' => e = .returned (.int .i64 ((b.length : Nat) : Int)) ∧ w' = wr) := Left_any rb A b.length c wr k1.cells
  obtain ⟨lb, hlbd⟩ : ∃ lb, lb = b.length := ⟨_, rfl⟩
  obtain ⟨l0, hl0d⟩ : ∃ l0, l0 = b0.length := ⟨_, rfl⟩
  have HLB := Lib.hid hlbd
  have HL0 := Lib.hid hl0d
  have HSF : Hid (b0.drop (l0 - lb) = b) := by show _ = _; rw [hl0d, hlbd]; exact hsf
  have CF : Hid (∀ W, Abv wr W → W.cell? ⟨db, 0, none⟩ = some (.slice A0 l0 c0)) := fun W hW => by rw [hl0d]; exact (h1.below hW).cell 0 _ h3
  have HS0 : Hid (SR vB false wr A0 l0 c0 b0) := by
    show SR _ _ _ _ _ _ _
    rw [hl0d]
    have hB := h.B
    rw [h.n2] at hB
    exact h8.below hB
  rw [← hlbd] at HLeft hlb
  rw [← hl0d] at hlb hl0
  clear h h1 h2 h3 h4 h5 h6 h7 h8 h9 k1 k2 k3 hlbd hl0d hsf
  by_cases h12 : lb < 12
  · have hws : IntKind.i64.wrap ((l0 : Int) - (lb : Int)) = ((l0 - lb : Nat) : Int) := by rw [wr64 _ (by omega) (by omega)]; omega
    go_enter Tryd.func32, Tryd.ntmps32
    go_wp2_with (go_at_call 48; refine HLeft.out.mono ?_; rintro e w' ⟨rfl, hw'⟩; rw [hw']; clear hw')
    refine wp_region_W (S := Abv wr) [(false, 0), (false, 1), (false, 2), (false, 3), (false, 4), (false, 5), (false, 6), (false, 7), (false, 8), (false, 9), (false, 10), (false, 13), (true, 11), (false, 12)] (by kernel_rfl) (by kernel_rfl) (bwDrew (Below.refl _ _)) ?_
    simp only [attachW, List.getElem?_cons_zero, List.getElem?_cons_succ]
    refine' wpHX_val rfl (fun W hW => ?_) ?_
    rotate_left
    · have hcf := CF.out W hW; go_simp; rfl
    simp only [Act.put, List.setIfInBounds_toArray, List.set_cons_zero, List.set_cons_succ]
    refine' wpHX_val rfl (fun W hW => ?_) ?_
    rotate_left
    · have hcf := CF.out W hW; go_simp; rfl
    simp only [Act.put, List.setIfInBounds_toArray, List.set_cons_zero, List.set_cons_succ]
    refine' wpHX_val rfl (fun W hW => ?_) ?_
    rotate_left
    · have hcf := CF.out W hW; go_simp; rfl
    simp only [Act.put, List.setIfInBounds_toArray, List.set_cons_zero, List.set_cons_succ]
    refine' wpHX_val rfl (fun W hW => ?_) ?_
    rotate_left
    · have hcf := CF.out W hW; go_simp; rfl
    simp only [Act.put, List.setIfInBounds_toArray, List.set_cons_zero, List.set_cons_succ]
    refine' wpHX_val rfl (fun W hW => ?_) ?_
    rotate_left
    · have hcf := CF.out W hW; go_simp; rfl
    simp only [Act.put, List.setIfInBounds_toArray, List.set_cons_zero, List.set_cons_succ]
    refine' wpHX_val rfl (fun W hW => ?_) ?_
    rotate_left
    · have hcf := CF.out W hW; go_simp; rfl
    simp only [Act.put, List.setIfInBounds_toArray, List.set_cons_zero, List.set_cons_succ]
    refine' wpHX_val rfl (fun W hW => ?_) ?_
    rotate_left
    · have hcf := CF.out W hW; go_simp; rfl
    simp only [Act.put, List.setIfInBounds_toArray, List.set_cons_zero, List.set_cons_succ]
    refine' wpHX_val rfl (fun W hW => ?_) ?_
    rotate_left
    · have hcf := CF.out W hW; go_simp; rfl
    simp only [Act.put, List.setIfInBounds_toArray, List.set_cons_zero, List.set_cons_succ]
    refine' wpHX_val rfl (fun W hW => ?_) ?_
    rotate_left
    · have hcf := CF.out W hW; go_simp; rfl
    simp only [Act.put, List.setIfInBounds_toArray, List.set_cons_zero, List.set_cons_succ]
    refine' wpHX_val rfl (fun W hW => ?_) ?_
    rotate_left
    · have hcf := CF.out W hW; go_simp; rfl
    simp only [Act.put, List.setIfInBounds_toArray, List.set_cons_zero, List.set_cons_succ]
    refine' wpHX_val rfl (fun W hW => ?_) ?_
    rotate_left
    · have hcf := CF.out W hW; go_simp; rfl
    simp only [Act.put, List.setIfInBounds_toArray, List.set_cons_zero, List.set_cons_succ]
    refine' wpHX_val rfl (fun W hW => ?_) ?_
    rotate_left
    · have hcf := CF.out W hW; go_simp; rfl
    simp only [Act.put, List.setIfInBounds_toArray, List.set_cons_zero, List.set_cons_succ]
    refine' wpHX_aval rfl (exec_sliceB (l := b0) rfl rfl rfl (l0 - lb) rfl (by omega)) (bwDrew (Below.refl _ _)) ?_
    simp only [Act.put, List.setIfInBounds_toArray, List.set_cons_zero, List.set_cons_succ]
    have HSR : Hid (SR vB false wr.drew (if c0 = l0 - lb then A0 else A0.map (fun ad => ad.add (l0 - lb))) lb (c0 - (l0 - lb)) b) := by
      have h9 := (HS0.out.from (l0 - lb) (by omega)).below (bwDrew (Below.refl _ _))
      rw [HSF.out, show l0 - (l0 - lb) = lb from by omega] at h9
      exact h9
    rw [show l0 - (l0 - lb) = lb from by omega]
    generalize (if c0 = l0 - lb then A0 else A0.map (fun ad => ad.add (l0 - lb))) = A1 at *
    generalize c0 - (l0 - lb) = c1 at *
    have HBW : Hid (Abv wr wr.drew) := bwDrew (Below.refl _ _)
    clear CF HS0
    generalize wr.drew = w5 at *
    refine' wpHX_val rfl (fun W hW => ?_) ?_
    rotate_left
    · go_simp; rfl
    simp only [Act.put, List.setIfInBounds_toArray, List.set_cons_zero, List.set_cons_succ]
    refine wpHX_nil ?_
    go_wp2
    go_loop [26] (fun iv => ∃ k : Nat, k ≤ lb ∧ iv = .int .i64 k ∧ Hid (∀ j, j < k → b.getD j false = true)) (fun iv => lb - (intOf iv).toNat)
    case atStart => exact ⟨0, Nat.zero_le _, rfl, fun j hj => by omega⟩
    case round =>
      obtain ⟨k, hk, rfl, hA⟩ := hrel
      by_cases hlt : k < lb
      · obtain ⟨ad, rfl, _, hcs⟩ := HSR.out.rd (by rw [← HLB.out]; omega)
        have hx1 := hcs k (by rw [← HLB.out]; exact hlt)
        have HEF : Hid (b.getD k false = false → endB b = false) := endB_false (by rw [← HLB.out]; exact hlt)
        have HAN : Hid (b.getD k false = true → ∀ j, j < k + 1 → b.getD j false = true) := by
          show _ → _
          intro h j hj
          rcases Nat.lt_or_ge j k with h1 | h1
          · exact hA.out j h1
          · obtain rfl : j = k := by omega
            exact h
        clear hcs hA
        generalize b.getD k false = y at *
        cases y with
        | true =>
          have HAN2 := Lib.hid (HAN.out rfl)
          clear HAN HEF
          go_wp2
          exact ⟨⟨k + 1, by omega, by go_num, HAN2.out⟩, by simp [intOf]; omega⟩
        | false =>
          have HEF2 := Lib.hid (HEF.out rfl)
          clear HAN HEF
          go_wp2
          go_ret
          exact ⟨by rw [HEF2.out]; rfl, HBW.out⟩
      · have hk2 : k = lb := by omega
        have HET : Hid (endB b = true) := by
          refine endB_true (by rw [← HLB.out]; exact h12) (fun j hj => hA.out j ?_)
          rw [hk2, HLB.out]; exact hj
        clear hA
        go_wp2
        go_ret
        exact ⟨by rw [HET.out]; rfl, HBW.out⟩
  · have HEF : Hid (endB b = false) := by
      show _ = _
      unfold endB
      rw [decide_eq_false (by rw [← HLB.out]; exact h12)]; rfl
    have h12' : 12 ≤ lb := by omega
    clear h12 CF HS0 HSF
    go_enter Tryd.func32, Tryd.ntmps32
    go_wp2_with (go_at_call 48; refine HLeft.out.mono ?_; rintro e w' ⟨rfl, hw'⟩; rw [hw']; clear hw')
    go_ret
    exact ⟨by rw [HEF.out]; rfl, Below.refl _ _⟩
end Go.Proofs.YtplppbfnlfehnaaDoor
