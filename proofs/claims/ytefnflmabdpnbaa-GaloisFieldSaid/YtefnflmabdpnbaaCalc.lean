import Derived.Test.YtefnflmabdpnbaaAlive
namespace Go.Proofs.Ytefnflmabdpnbaa
open Go.RowKit
set_option linter.unusedVariables false
/-! calc: a field, and whether all calls were right -/
theorem setCell_id (w : World) (b i : Nat) (v : Value) (h : w.cell? ⟨b, i, none⟩ = some v) : w.setCell ⟨b, i, none⟩ v = w := by
  have e : (w.setCell ⟨b, i, none⟩ v).heap = w.heap := by
    apply Array.ext
    · simp [World.setCell]
    · intro j h1 h2
      simp only [World.setCell, Array.getElem_modify]
      split
      · rename_i hj
        subst hj
        unfold World.cell? at h
        simp only [Array.getElem?_eq_getElem h2] at h
        generalize w.heap[b] = o at h ⊢
        cases o with
        | cells c el fr =>
          have h' : c[i]? = some v := h
          clear h
          have h := h'
          show Obj.cells (c.setIfInBounds i v) el fr = Obj.cells c el fr
          congr 1
          apply Array.ext
          · simp
          · intro k k1 k2
            rw [Array.getElem_setIfInBounds]
            split
            · rename_i hk
              subst hk
              rw [Array.getElem?_eq_getElem k2] at h
              exact (Option.some.inj h).symm
            · rfl
        | _ => rfl
      · rfl
  show ({ w with heap := (w.setCell ⟨b, i, none⟩ v).heap } : World) = w
  rw [e]
def FrzAt (W : World) (b i : Nat) : Prop := b < W.heap.size ∧ W.frozen? ⟨b, i, none⟩ = false
theorem FrzAt.below {W W' : World} {b i : Nat} (h : FrzAt W b i) (hb : Below W.heap.size W W') : FrzAt W' b i := ⟨Nat.lt_of_lt_of_le h.1 hb.size, (hb.frozen h.1).trans h.2⟩
theorem FrzAt.alloc {W : World} {b i : Nat} (h : FrzAt W b i) (o : Obj) : FrzAt (W.alloc o) b i := h.below ((Below.refl _ _).alloc (Nat.le_refl _) o)
theorem FrzAt.new (W : World) (xs : Array Value) (t : TypeId) (b i : Nat) (hb : b = W.heap.size) : FrzAt (W.alloc (.cells xs t)) b i := ⟨by simp; omega, World.frozen?_alloc_at _ _ _ _ hb⟩
theorem FrzAt.drewN {W : World} {b i : Nat} (h : FrzAt W b i) (n : Nat) : FrzAt (W.drewN n) b i := h
/-- blocks that hold what they held, cells that may be written, and nothing turned below w -/
def Keep (w : World) (l : List (Nat × List Value)) (fz : List (Nat × Nat)) (W : World) : Prop :=
  (∀ x ∈ l, CellsAt W x.1 x.2) ∧ (∀ x ∈ fz, FrzAt W x.1 x.2) ∧ Below w.heap.size w W
theorem Keep.step {w : World} {l : List (Nat × List Value)} {fz : List (Nat × Nat)} {W W' : World} (h : Keep w l fz W) (hb : Below W.heap.size W W') : Keep w l fz W' :=
  ⟨fun x hx => (h.1 x hx).below hb, fun x hx => (h.2.1 x hx).below hb, bwStep h.2.2 hb⟩
theorem Keep.drew {w : World} {l : List (Nat × List Value)} {fz : List (Nat × Nat)} {W : World} (h : Keep w l fz W) : Keep w l fz W.drew := ⟨fun x hx => h.1 x hx, fun x hx => h.2.1 x hx, h.2.2.drew⟩
theorem Keep.c {A : Prop} {w : World} {l : List (Nat × List Value)} {fz : List (Nat × Nat)} {W : World} (h : A ∧ Keep w l fz W) {b : Nat} {vs : List Value} (hm : (b, vs) ∈ l) : CellsAt W b vs := h.2.1 _ hm
theorem Keep.f {A : Prop} {w : World} {l : List (Nat × List Value)} {fz : List (Nat × Nat)} {W : World} (h : A ∧ Keep w l fz W) {b i : Nat} (hm : (b, i) ∈ fz) : FrzAt W b i := h.2.2.1 _ hm
theorem cells_cons {W : World} {b : Nat} {vs : List Value} {l : List (Nat × List Value)} (h : CellsAt W b vs) (hl : ∀ x ∈ l, CellsAt W x.1 x.2) : ∀ x ∈ (b, vs) :: l, CellsAt W x.1 x.2 := by
  intro x hx
  rcases List.mem_cons.1 hx with rfl | hx
  · exact h
  · exact hl x hx
theorem frzs_cons {W : World} {b i : Nat} {l : List (Nat × Nat)} (h : FrzAt W b i) (hl : ∀ x ∈ l, FrzAt W x.1 x.2) : ∀ x ∈ (b, i) :: l, FrzAt W x.1 x.2 := by
  intro x hx
  rcases List.mem_cons.1 hx with rfl | hx
  · exact h
  · exact hl x hx
abbrev calcV (C S P : Nat) : List Value := [.int .i64 C, .int .i64 S, .int .i64 P, .bool true]
theorem addR_ok {C S P : Nat} {x y : Int} (h : VF C S P) (hx0 : 0 ≤ x) (hx : x < S) (hy0 : 0 ≤ y) (hy : y < S) : addR C S P x y = (((faddN S P x.toNat y.toNat : Nat) : Int), 0) := by
  obtain ⟨X, rfl⟩ := Int.eq_ofNat_of_zero_le hx0
  obtain ⟨Y, rfl⟩ := Int.eq_ofNat_of_zero_le hy0
  unfold addR; rw [ok2_of h (by omega) (by omega)]; simp
theorem subR_ok {C S P : Nat} {x y : Int} (h : VF C S P) (hx0 : 0 ≤ x) (hx : x < S) (hy0 : 0 ≤ y) (hy : y < S) : subR C S P x y = (((fsubN S P x.toNat y.toNat : Nat) : Int), 0) := by
  obtain ⟨X, rfl⟩ := Int.eq_ofNat_of_zero_le hx0
  obtain ⟨Y, rfl⟩ := Int.eq_ofNat_of_zero_le hy0
  unfold subR; rw [ok2_of h (by omega) (by omega)]; simp
theorem mulR_ok {C S P : Nat} {x y : Int} (h : VF C S P) (hx0 : 0 ≤ x) (hx : x < S) (hy0 : 0 ≤ y) (hy : y < S) : mulR C S P x y = (((fmulN S P x.toNat y.toNat : Nat) : Int), 0) := by
  obtain ⟨X, rfl⟩ := Int.eq_ofNat_of_zero_le hx0
  obtain ⟨Y, rfl⟩ := Int.eq_ofNat_of_zero_le hy0
  unfold mulR; rw [ok2_of h (by omega) (by omega)]; simp
/-- the power of an element for any exponent that is right for it -/
def fpowI (S P : Nat) (x n : Int) : Nat := if x = 0 then (if n = 0 then 1 else 0) else fpowN S P x.toNat (n % ((S : Int) - 1)).toNat
theorem powR_ok {C S P : Nat} {x n : Int} (h : VF C S P) (hx0 : 0 ≤ x) (hx : x < S) (hn : x = 0 → 0 ≤ n) : powR C S P x n = (((fpowI S P x n : Nat) : Int), 0) := by
  obtain ⟨X, rfl⟩ := Int.eq_ofNat_of_zero_le hx0
  unfold powR fpowI; rw [ok1_of h (by omega)]
  by_cases h0 : (X : Int) = 0
  · rw [if_pos h0]
    have := hn h0
    by_cases h1 : n = 0
    · subst h1; simp [h0]
    · simp [h0, h1, show ¬ n < 0 by omega]
  · rw [if_neg h0, if_neg h0]; simp
set_option maxHeartbeats 1000000 in
theorem cadd_any (C S P : Nat) (x y : Int) (b : Nat) (w : World) (hv : VF C S P) (hx0 : 0 ≤ x) (hx : x < S) (hy0 : 0 ≤ y) (hy : y < S) (hc : CellsAt w b (calcV C S P)) (hf : FrzAt w b 3) :
    Calls Try.prog 35 #[.pointer (some ⟨b, 0, none⟩), .int .i64 x, .int .i64 y] w fun e w' => e = .returned (.int .i64 (faddN S P x.toNat y.toNat : Nat)) ∧ Below w.heap.size w w' := by
  have HA := Lib.hid (addR_ok hv hx0 hx hy0 hy)
  have hS := hv.le
  have hP : (P : Int) ≤ 9223372036854775807 := hv.pbd
  have HV := Lib.hid hv; clear hv
  have hb0 := hc.1
  have q0 : w.cell? ⟨b, 0, none⟩ = some (.int .i64 C) := hc.2 0 (by simp)
  have q1 : w.cell? ⟨b, 1, none⟩ = some (.int .i64 S) := hc.2 1 (by simp)
  have q2 : w.cell? ⟨b, 2, none⟩ = some (.int .i64 P) := hc.2 2 (by simp)
  have HC := Lib.hid hc; clear hc
  have HF := Lib.hid hf; clear hf
  go_enter Try.func35, Try.ntmps35
  go_wp2_with fail
  refine (Add_any C S P x y _ (by omega) hP).mono ?_
  rintro e w1 ⟨rfl, hb1⟩
  rw [HA.out]
  have hc1 := HC.out.below hb1
  have hf1 := (HF.out.below hb1).2
  have hb2 := hc1.1
  have r3 : w1.cell? ⟨b, 3, none⟩ = some (.bool true) := hc1.2 3 (by simp)
  have HID := Lib.hid (setCell_id w1 b 3 _ r3)
  have HB := Lib.hid hb1
  clear hb1 hc1 q0 q1 q2
  go_wp2
  go_ret
  exact ⟨rfl, by rw [HID.out]; exact HB.out⟩
set_option maxHeartbeats 1000000 in
theorem cmul_any (C S P : Nat) (x y : Int) (b : Nat) (w : World) (hv : VF C S P) (hx0 : 0 ≤ x) (hx : x < S) (hy0 : 0 ≤ y) (hy : y < S) (hc : CellsAt w b (calcV C S P)) (hf : FrzAt w b 3) :
    Calls Try.prog 36 #[.pointer (some ⟨b, 0, none⟩), .int .i64 x, .int .i64 y] w fun e w' => e = .returned (.int .i64 (fmulN S P x.toNat y.toNat : Nat)) ∧ Below w.heap.size w w' := by
  have HA := Lib.hid (mulR_ok hv hx0 hx hy0 hy)
  have hS := hv.le
  have hP : (P : Int) ≤ 9223372036854775807 := hv.pbd
  have HV := Lib.hid hv; clear hv
  have hb0 := hc.1
  have q0 : w.cell? ⟨b, 0, none⟩ = some (.int .i64 C) := hc.2 0 (by simp)
  have q1 : w.cell? ⟨b, 1, none⟩ = some (.int .i64 S) := hc.2 1 (by simp)
  have q2 : w.cell? ⟨b, 2, none⟩ = some (.int .i64 P) := hc.2 2 (by simp)
  have HC := Lib.hid hc; clear hc
  have HF := Lib.hid hf; clear hf
  go_enter Try.func36, Try.ntmps36
  go_wp2_with fail
  refine (Mul_any C S P x y _ (by omega) hP).mono ?_
  rintro e w1 ⟨rfl, hb1⟩
  rw [HA.out]
  have hc1 := HC.out.below hb1
  have hf1 := (HF.out.below hb1).2
  have hb2 := hc1.1
  have r3 : w1.cell? ⟨b, 3, none⟩ = some (.bool true) := hc1.2 3 (by simp)
  have HID := Lib.hid (setCell_id w1 b 3 _ r3)
  have HB := Lib.hid hb1
  clear hb1 hc1 q0 q1 q2
  go_wp2
  go_ret
  exact ⟨rfl, by rw [HID.out]; exact HB.out⟩
set_option maxHeartbeats 1000000 in
theorem cpow_any (C S P : Nat) (x y : Int) (b : Nat) (w : World) (hv : VF C S P) (hx0 : 0 ≤ x) (hx : x < S) (hy : x = 0 → 0 ≤ y) (hn0 : -9223372036854775808 ≤ y) (hn1 : y ≤ 9223372036854775807) (hc : CellsAt w b (calcV C S P)) (hf : FrzAt w b 3) :
    Calls Try.prog 40 #[.pointer (some ⟨b, 0, none⟩), .int .i64 x, .int .i64 y] w fun e w' => e = .returned (.int .i64 (fpowI S P x y : Nat)) ∧ Below w.heap.size w w' := by
  have HA := Lib.hid (powR_ok hv hx0 hx hy)
  have hS := hv.le
  have hP : (P : Int) ≤ 9223372036854775807 := hv.pbd
  have HV := Lib.hid hv; clear hv
  have hb0 := hc.1
  have q0 : w.cell? ⟨b, 0, none⟩ = some (.int .i64 C) := hc.2 0 (by simp)
  have q1 : w.cell? ⟨b, 1, none⟩ = some (.int .i64 S) := hc.2 1 (by simp)
  have q2 : w.cell? ⟨b, 2, none⟩ = some (.int .i64 P) := hc.2 2 (by simp)
  have HC := Lib.hid hc; clear hc
  have HF := Lib.hid hf; clear hf
  go_enter Try.func40, Try.ntmps40
  go_wp2_with fail
  refine (Pow_any C S P x y _ (by omega) hP hn0 hn1).mono ?_
  rintro e w1 ⟨rfl, hb1⟩
  rw [HA.out]
  have hc1 := HC.out.below hb1
  have hf1 := (HF.out.below hb1).2
  have hb2 := hc1.1
  have r3 : w1.cell? ⟨b, 3, none⟩ = some (.bool true) := hc1.2 3 (by simp)
  have HID := Lib.hid (setCell_id w1 b 3 _ r3)
  have HB := Lib.hid hb1
  clear hb1 hc1 q0 q1 q2
  go_wp2
  go_ret
  exact ⟨rfl, by rw [HID.out]; exact HB.out⟩
end Go.Proofs.Ytefnflmabdpnbaa
