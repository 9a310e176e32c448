import Derived.Test.YtplppbfnlfehnaaDoorAztA
import Derived.Test.YtplppbfnlfehnaaDoorTail3
namespace Go.Proofs.YtplppbfnlfehnaaDoor
open Go.RowKit
set_option linter.unusedVariables false
/-! small functions -/
def widthN (mode : Nat) : Nat := if mode = 4 then 4 else 5
theorem numberBits_any (m : Nat) (w : World) :
    Calls Tryd.prog 41 #[.int .i64 m] w fun e w' => e = .returned (.int .i64 ((widthN m : Nat) : Int)) ∧ w' = w := by
  by_cases h : m = 4
  · subst h
    go_enter Tryd.func41, Tryd.ntmps41
    go_wp2
    go_ret
    exact ⟨rfl, rfl⟩
  · have hz : ((m : Int) == 4) = false := by rw [beq_eq_false_iff_ne]; omega
    have HE : Hid (widthN m = 5) := by show _ = _; unfold widthN; rw [if_neg h]
    clear h
    go_enter Tryd.func41, Tryd.ntmps41
    go_wp2
    go_ret
    exact ⟨by rw [HE.out]; rfl, rfl⟩
/-- the bit at a place; 1 behind the end -/
def bitN (b : List Bool) (at_ : Nat) : Nat := if at_ < b.length ∧ b.getD at_ false = false then 0 else 1
theorem bitAt_any (A : Option Addr) (n c : Nat) (b : List Bool) (k : Nat) (w : World) (hb : SR vB false w A n c b) (hk : k ≤ 100000000) :
    Calls Tryd.prog 36 #[.slice A n c, .int .i64 k] w fun e w' => e = .returned (.int .i64 ((bitN b k : Nat) : Int)) ∧ w' = w := by
  have HN : Hid (n = b.length) := hb.hn
  have HR := Lib.hid hb.rd
  clear hb
  by_cases hlt : k < n
  · obtain ⟨ad, rfl, hadw, hca⟩ := HR.out (by rw [← HN.out]; omega)
    have hx := hca k (by rw [← HN.out]; omega)
    have HE : Hid (bitN b k = if b.getD k false = false then 0 else 1) := by
      show _ = _
      unfold bitN
      have h1 : k < b.length := by rw [← HN.out]; exact hlt
      simp only [h1, true_and]
    clear hca
    generalize b.getD k false = y at *
    cases y with
    | false =>
      go_enter Tryd.func36, Tryd.ntmps36
      go_wp2
      go_ret
      exact ⟨by rw [HE.out]; rfl, rfl⟩
    | true =>
      go_enter Tryd.func36, Tryd.ntmps36
      go_wp2
      go_ret
      exact ⟨by rw [HE.out]; rfl, rfl⟩
  · have HE : Hid (bitN b k = 1) := by
      show _ = _
      unfold bitN
      rw [if_neg]
      have := HN.out
      omega
    go_enter Tryd.func36, Tryd.ntmps36
    go_wp2
    go_ret
    exact ⟨by rw [HE.out]; rfl, rfl⟩
set_option maxHeartbeats 1000000 in
theorem Same_any (A : Option Addr) (n c : Nat) (a : List Bool) (B : Option Addr) (m k : Nat) (b : List Bool) (w : World) (ha : SR vB false w A n c a) (hb : SR vB false w B m k b) :
    Calls Tryd.prog 15 #[.slice A n c, .slice B m k] w fun e w' => e = .returned (.bool (decide (a = b))) ∧ Below w.heap.size w w' := by
  have HN : Hid (n = a.length) := ha.hn
  have HM : Hid (m = b.length) := hb.hn
  have hn63 : n ≤ 9223372036854775807 := by have := ha.hm; have := ha.hc; unfold maxLen at *; omega
  have HA := Lib.hid ha.rd
  have HB := Lib.hid hb.rd
  clear ha hb
  by_cases hnm : n = m
  · subst hnm
    go_enter Tryd.func15, Tryd.ntmps15
    go_wp2
    go_loopw [5] (fun iv wr => ∃ j : Nat, j ≤ n ∧ iv = .int .i64 j ∧ Hid (Abv w wr) ∧ Hid (∀ i, i < j → a.getD i false = b.getD i false)) (fun iv _ => n - (intOf iv).toNat)
    case atStart => exact ⟨0, Nat.zero_le _, rfl, Below.refl _ _, fun i hi => by omega⟩
    case round =>
      obtain ⟨j, hj, rfl, hW, hE⟩ := hrel
      by_cases hlt : j < n
      · obtain ⟨ad, rfl, hadw, hca⟩ := HA.out (by rw [← HN.out]; omega)
        obtain ⟨bd, rfl, hbdw, hcb⟩ := HB.out (by rw [← HM.out]; omega)
        have CF : Hid (∀ W, Abv wr W → W.cell? (ad.add j) = some (.bool (a.getD j false)) ∧ W.cell? (bd.add j) = some (.bool (b.getD j false))) := by
          show ∀ W, _
          intro W hW2
          have h0 := bwStep hW.out hW2
          exact ⟨(h0.cell (by rw [block_of_add]; exact hadw)).trans (hca j (by rw [← HN.out]; exact hlt)), (h0.cell (by rw [block_of_add]; exact hbdw)).trans (hcb j (by rw [← HM.out]; exact hlt))⟩
        clear hca hcb
        have HD : Hid (a.getD j false ≠ b.getD j false → decide (a = b) = false) := by
          show _ → _
          intro h
          rw [decide_eq_false_iff_not]
          intro e; rw [e] at h; exact h rfl
        have HJ : Hid (a.getD j false = b.getD j false → ∀ i, i < j + 1 → a.getD i false = b.getD i false) := by
          show _ → _
          intro h i hi
          rcases Nat.lt_or_ge i j with h1 | h1
          · exact hE.out i h1
          · obtain rfl : i = j := by omega
            exact h
        generalize a.getD j false = x at *
        generalize b.getD j false = y at *
        have HD0 : Hid (Abv wr wr.drew) := bwDrew (Below.refl _ _)
        cases hxy : (x == y) with
        | true =>
          have HXY : Hid (x = y) := beq_iff_eq.1 hxy
          have hne : (x != y) = false := by rw [bne, hxy]; rfl
          go_wp2
          refine wp_region_W (S := Abv wr) [(false, 0), (false, 1), (false, 2), (false, 3), (false, 4), (false, 5), (false, 6), (false, 7), (false, 8)] (by kernel_rfl) (by kernel_rfl) HD0.out ?_
          simp only [attachW, List.getElem?_cons_zero, List.getElem?_cons_succ]
          repeat
            refine' wpHX_val rfl (fun W hW => ?_) ?_
            rotate_left
            · have hcf := CF.out W hW; go_simp; rfl
            simp only [Act.put, List.setIfInBounds_toArray, List.set_cons_zero, List.set_cons_succ]
          refine wpHX_nil ?_
          go_wp2
          exact ⟨⟨j + 1, by omega, by go_num, bwStep hW.out HD0.out, HJ.out HXY.out⟩, by simp [intOf]; omega⟩
        | false =>
          have HXY : Hid (x ≠ y) := beq_eq_false_iff_ne.1 hxy
          have hne : (x != y) = true := by rw [bne, hxy]; rfl
          go_wp2
          refine wp_region_W (S := Abv wr) [(false, 0), (false, 1), (false, 2), (false, 3), (false, 4), (false, 5), (false, 6), (false, 7), (false, 8)] (by kernel_rfl) (by kernel_rfl) HD0.out ?_
          simp only [attachW, List.getElem?_cons_zero, List.getElem?_cons_succ]
          repeat
            refine' wpHX_val rfl (fun W hW => ?_) ?_
            rotate_left
            · have hcf := CF.out W hW; go_simp; rfl
            simp only [Act.put, List.setIfInBounds_toArray, List.set_cons_zero, List.set_cons_succ]
          refine wpHX_nil ?_
          go_wp2
          go_ret
          exact ⟨by rw [HD.out HXY.out]; rfl, bwStep hW.out HD0.out⟩
      · obtain rfl : j = n := by omega
        have HT : Hid (decide (a = b) = true) := by
          show _ = _
          rw [decide_eq_true_eq]
          apply List.ext_getElem (by rw [← HN.out, ← HM.out])
          intro i h1 h2
          have := hE.out i (by rw [HN.out]; exact h1)
          simpa [List.getD, h1, h2] using this
        go_wp2
        go_ret
        exact ⟨by rw [HT.out]; rfl, hW.out⟩
  · have HF : Hid (decide (a = b) = false) := by
      show _ = _
      rw [decide_eq_false_iff_not]
      intro e
      apply hnm
      rw [HN.out, HM.out, e]
    have hz : ((n : Int) == m) = false := by rw [beq_eq_false_iff_ne]; omega
    go_enter Tryd.func15, Tryd.ntmps15
    go_wp2
    go_ret
    exact ⟨by rw [HF.out]; rfl, Below.refl _ _⟩
end Go.Proofs.YtplppbfnlfehnaaDoor
