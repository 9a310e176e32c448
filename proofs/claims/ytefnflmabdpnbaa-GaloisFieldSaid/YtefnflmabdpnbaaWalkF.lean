import Derived.Test.YtefnflmabdpnbaaWalkE
namespace Go.Proofs.Ytefnflmabdpnbaa
open Go.RowKit
theorem bcell {W w1 : World} (hb : Below W.heap.size W w1) : (∀ b o, b < W.heap.size → w1.cell? ⟨b, o, none⟩ = W.cell? ⟨b, o, none⟩) ∧ (∀ b o, b < W.heap.size → w1.frozen? ⟨b, o, none⟩ = W.frozen? ⟨b, o, none⟩) :=
  ⟨fun _ _ h => hb.cell h, fun _ _ h => hb.frozen h⟩
def inB (s : Int) (xs : List Int) : Bool := xs.all fun a => decide (0 ≤ a) && decide (a < s)
set_option maxHeartbeats 400000 in
theorem has_no (c s p : Int) (xs : Value) (w : World) (h1 : p ≤ 9223372036854775807) (hv : vldB c s p = false) :
    Calls Try.prog 47 #[fldv c s p, xs] w fun e w' => e = .returned (.bool false) ∧ Below w.heap.size w w' := by
  have HV := Lib.hid hv; clear hv
  go_enter Try.func47, Try.ntmps47
  go_wp2_with (go_at_call 14; refine (valid_any _ _ _ _ (by omega)).mono ?_; rintro e w1 ⟨rfl, hb1⟩; rw [HV.out])
  go_ret
  exact ⟨rfl, ((Below.refl _ _).alloc (Nat.le_refl _) _).trans (hb1.mono (by simp))⟩
set_option maxHeartbeats 400000 in
theorem has_yes0 (c s p : Int) (w : World) (h1 : p ≤ 9223372036854775807) (hv : vldB c s p = true) :
    Calls Try.prog 47 #[fldv c s p, .slice none 0 0] w fun e w' => e = .returned (.bool true) ∧ Below w.heap.size w w' := by
  have HV := Lib.hid hv; clear hv
  go_enter Try.func47, Try.ntmps47
  go_wp2_with (go_at_call 14; refine (valid_any _ _ _ _ (by omega)).mono ?_; rintro e w1 ⟨rfl, hb1⟩; rw [HV.out])
  go_loop [6, 12] (fun _ i => i = .int .i64 0) (fun _ _ => 0)
  case atStart => rfl
  case round =>
    subst hrel
    go_wp2
    go_ret
    exact ⟨rfl, ((Below.refl _ _).alloc (Nat.le_refl _) _).trans (hb1.mono (by simp))⟩
set_option maxHeartbeats 400000 in
theorem has_yes (c s p : Int) (xs : List Int) (b : Nat) (w : World) (h1 : p ≤ 9223372036854775807) (hv : vldB c s p = true)
    (hn : xs.length ≤ 1000) (hbw : b < w.heap.size) (hcl : ∀ i, i < xs.length → w.cell? ⟨b, i, none⟩ = some (.int .i64 (xs.getD i 0))) :
    Calls Try.prog 47 #[fldv c s p, .slice (some ⟨b, 0, none⟩) xs.length xs.length] w fun e w' => e = .returned (.bool (inB s xs)) ∧ Below w.heap.size w w' := by
  have HV := Lib.hid hv; clear hv
  have HC := Lib.hid hcl; clear hcl
  generalize hL : xs.length = n at *
  have HL := Lib.hid hL; clear hL
  go_enter Try.func47, Try.ntmps47
  go_wp2_with (go_at_call 14; refine (valid_any _ _ _ _ (by omega)).mono ?_; rintro e w1 ⟨rfl, hb1⟩; rw [HV.out])
  obtain ⟨hbc, -⟩ := bcell hb1
  have hcs : w1.cell? ⟨w.heap.size, 1, none⟩ = some (.int .i64 s) := by
    rw [hbc _ _ (by simp)]; go_simp
  have hcx : ∀ i, i < n → w1.cell? ⟨b, i, none⟩ = some (.int .i64 (xs.getD i 0)) := by
    intro i hi
    rw [hbc _ _ (by simp; omega), ← HC.out i hi]
    exact World.cell?_of_block (Below.heap_alloc _ _ _ hbw)
  have HX := Lib.hid hcx; clear hcx HC hbc
  have hfin : Hid (Below w.heap.size w w1) := ((Below.refl _ _).alloc (Nat.le_refl _) _).trans (hb1.mono (by simp))
  clear hb1
  go_loop [6, 12] (fun _ i => ∃ k : Nat, k ≤ n ∧ i = .int .i64 k ∧ Hid (∀ j, j < k → 0 ≤ xs.getD j 0 ∧ xs.getD j 0 < s)) (fun _ i => n - (intOf i).toNat)
  case atStart => exact ⟨0, Nat.zero_le _, rfl, fun j hj => by omega⟩
  case round =>
    obtain ⟨k, hk, rfl, hid⟩ := hrel
    by_cases hlt : k < n
    · have hck := HX.out k hlt
      generalize hx : xs.getD k 0 = x at *
      have Hx := Lib.hid hx; clear hx
      by_cases h2 : x < 0
      · have hI : inB s xs = false := by
          unfold inB; rw [List.all_eq_false]
          have hkl : k < xs.length := by rw [HL.out]; exact hlt
          refine ⟨xs[k], List.getElem_mem hkl, ?_⟩
          have : xs[k] = x := by rw [← Hx.out]; simp [List.getElem?_eq_getElem hkl]
          rw [this]; simp; omega
        have HI := Lib.hid hI; clear hI
        go_wp2
        go_ret
        exact ⟨ret_bool HI.out.symm, hfin.out⟩
      · by_cases h3 : s ≤ x
        · have hI : inB s xs = false := by
            unfold inB; rw [List.all_eq_false]
            have hkl : k < xs.length := by rw [HL.out]; exact hlt
            refine ⟨xs[k], List.getElem_mem hkl, ?_⟩
            have : xs[k] = x := by rw [← Hx.out]; simp [List.getElem?_eq_getElem hkl]
            rw [this]; simp; omega
          have HI := Lib.hid hI; clear hI
          go_wp2
          go_ret
          exact ⟨ret_bool HI.out.symm, hfin.out⟩
        · go_wp2
          refine ⟨⟨k + 1, by omega, by go_num, ?_⟩, by simp [intOf]; omega⟩
          intro j hj
          by_cases hjk : j = k
          · subst hjk; rw [Hx.out]; omega
          · exact hid.out j (by omega)
    · have hI : inB s xs = true := by
        unfold inB; rw [List.all_eq_true]
        intro a ha
        obtain ⟨j, hj, rfl⟩ := List.getElem_of_mem ha
        have := hid.out j (by rw [HL.out] at hj; omega)
        rw [List.getD_eq_getElem?_getD, List.getElem?_eq_getElem hj] at this
        simpa using this
      have HI := Lib.hid hI; clear hI
      obtain rfl : k = n := by omega
      go_wp2
      go_ret
      exact ⟨ret_bool HI.out.symm, hfin.out⟩
end Go.Proofs.Ytefnflmabdpnbaa
