import Derived.Test.YtplppbfnlfehnaaDoorAztC
namespace Go.Proofs.YtplppbfnlfehnaaDoor
open Go.RowKit
set_option linter.unusedVariables false
/-! Ints, Parse, Stuff at every argument -/
set_option maxHeartbeats 1000000 in
theorem Ints_any (A : Option Addr) (n c : Nat) (a : List Int) (B : Option Addr) (m k : Nat) (b : List Int) (w : World) (ha : SR vI 0 w A n c a) (hb : SR vI 0 w B m k b) :
    Calls Tryd.prog 22 #[.slice A n c, .slice B m k] w fun e w' => e = .returned (.bool (decide (a = b))) ∧ Below w.heap.size w w' := by
  have HN : Hid (n = a.length) := ha.hn
  have HM : Hid (m = b.length) := hb.hn
  have hn63 : n ≤ 9223372036854775807 := by have := ha.hm; have := ha.hc; unfold maxLen at *; omega
  have HA := Lib.hid ha.rd
  have HB := Lib.hid hb.rd
  clear ha hb
  by_cases hnm : n = m
  · subst hnm
    go_enter Tryd.func22, Tryd.ntmps22
    go_wp2
    go_loopw [5] (fun iv wr => ∃ j : Nat, j ≤ n ∧ iv = .int .i64 j ∧ Hid (Abv w wr) ∧ Hid (∀ i, i < j → a.getD i 0 = b.getD i 0)) (fun iv _ => n - (intOf iv).toNat)
    case atStart => exact ⟨0, Nat.zero_le _, rfl, Below.refl _ _, fun i hi => by omega⟩
    case round =>
      obtain ⟨j, hj, rfl, hW, hE⟩ := hrel
      by_cases hlt : j < n
      · obtain ⟨ad, rfl, hadw, hca⟩ := HA.out (by rw [← HN.out]; omega)
        obtain ⟨bd, rfl, hbdw, hcb⟩ := HB.out (by rw [← HM.out]; omega)
        have CF : Hid (∀ W, Abv wr W → W.cell? (ad.add j) = some (.int .i64 (a.getD j 0)) ∧ W.cell? (bd.add j) = some (.int .i64 (b.getD j 0))) := by
          show ∀ W, _
          intro W hW2
          have h0 := bwStep hW.out hW2
          exact ⟨(h0.cell (by rw [block_of_add]; exact hadw)).trans (hca j (by rw [← HN.out]; exact hlt)), (h0.cell (by rw [block_of_add]; exact hbdw)).trans (hcb j (by rw [← HM.out]; exact hlt))⟩
        clear hca hcb
        have HD : Hid (a.getD j 0 ≠ b.getD j 0 → decide (a = b) = false) := by
          show _ → _
          intro h
          rw [decide_eq_false_iff_not]
          intro e; rw [e] at h; exact h rfl
        have HJ : Hid (a.getD j 0 = b.getD j 0 → ∀ i, i < j + 1 → a.getD i 0 = b.getD i 0) := by
          show _ → _
          intro h i hi
          rcases Nat.lt_or_ge i j with h1 | h1
          · exact hE.out i h1
          · obtain rfl : i = j := by omega
            exact h
        generalize a.getD j 0 = x at *
        generalize b.getD j 0 = y at *
        have HD0 : Hid (Abv wr wr.drew) := bwDrew (Below.refl _ _)
        cases hxy : (x == y) with
        | true =>
          have HXY : Hid (x = y) := beq_iff_eq.1 hxy
          have hne : (x != y) = false := by rw [bne, hxy]; rfl
          go_wp2
          refine wp_region_W (S := Abv wr) [(false, 0), (false, 1), (false, 2), (false, 3), (false, 4), (false, 5), (false, 6), (false, 7), (false, 8)] (by kernel_rfl) (by kernel_rfl) HD0.out ?_
          simp only [attachW, List.getElem?_cons_zero, List.getElem?_cons_succ]
          repeat
            refine' wpHX_val rfl (fun W hW => ?_) ?_
            rotate_left
            · have hcf := CF.out W hW; go_simp; rfl
            simp only [Act.put, List.setIfInBounds_toArray, List.set_cons_zero, List.set_cons_succ]
          refine wpHX_nil ?_
          go_wp2
          exact ⟨⟨j + 1, by omega, by go_num, bwStep hW.out HD0.out, HJ.out HXY.out⟩, by simp [intOf]; omega⟩
        | false =>
          have HXY : Hid (x ≠ y) := beq_eq_false_iff_ne.1 hxy
          have hne : (x != y) = true := by rw [bne, hxy]; rfl
          go_wp2
          refine wp_region_W (S := Abv wr) [(false, 0), (false, 1), (false, 2), (false, 3), (false, 4), (false, 5), (false, 6), (false, 7), (false, 8)] (by kernel_rfl) (by kernel_rfl) HD0.out ?_
          simp only [attachW, List.getElem?_cons_zero, List.getElem?_cons_succ]
          repeat
            refine' wpHX_val rfl (fun W hW => ?_) ?_
            rotate_left
            · have hcf := CF.out W hW; go_simp; rfl
            simp only [Act.put, List.setIfInBounds_toArray, List.set_cons_zero, List.set_cons_succ]
          refine wpHX_nil ?_
          go_wp2
          go_ret
          exact ⟨by rw [HD.out HXY.out]; rfl, bwStep hW.out HD0.out⟩
      · obtain rfl : j = n := by omega
        have HT : Hid (decide (a = b) = true) := by
          show _ = _
          rw [decide_eq_true_eq]
          apply List.ext_getElem (by rw [← HN.out, ← HM.out])
          intro i h1 h2
          have := hE.out i (by rw [HN.out]; exact h1)
          simpa [List.getD, h1, h2] using this
        go_wp2
        go_ret
        exact ⟨by rw [HT.out]; rfl, hW.out⟩
  · have HF : Hid (decide (a = b) = false) := by
      show _ = _
      rw [decide_eq_false_iff_not]
      intro e
      apply hnm
      rw [HN.out, HM.out, e]
    have hz : ((n : Int) == m) = false := by rw [beq_eq_false_iff_ne]; omega
    go_enter Tryd.func22, Tryd.ntmps22
    go_wp2
    go_ret
    exact ⟨by rw [HF.out]; rfl, Below.refl _ _⟩

/-- a result list and an error number -/
def RT {α : Type} (f : α → Value) (d : α) (w : World) (L : List α × Int) (e : Ending) (w' : World) : Prop := ∃ v, e = .returned (.tuple #[v, .int .i64 L.2]) ∧ SG f d w' v L.1 ∧ Below w.heap.size w w'
theorem RT.mk {α : Type} {f : α → Value} {d : α} {w w' : World} {R : List α × Int} {v : Value} {L : List α} {err : Int} (h : R = (L, err)) (hi : SG f d w' v L) (hb : Below w.heap.size w w') : RT f d w R (.returned (.tuple #[v, .int .i64 err])) w' := by
  subst h; exact ⟨v, rfl, hi, hb⟩
def stuffRes (b : List Bool) (size : Int) : List Nat × Int :=
  if size < 2 ∨ 12 < size then ([], 3) else if 1048576 < b.length then ([], 4) else (stuffL b size.toNat, 0)
set_option maxRecDepth 100000 in
set_option maxHeartbeats 1000000 in
theorem Stuff_any (A : Option Addr) (n c : Nat) (size : Int) (b : List Bool) (w : World) (hb : SR vB false w A n c b) :
    Calls Tryd.prog 18 #[.slice A n c, .int .i64 size] w (RT vN 0 w (stuffRes b size)) := by
  have hn : n = b.length := hb.hn
  have hn63 : n ≤ 9223372036854775807 := by have := hb.hm; have := hb.hc; unfold maxLen at *; omega
  by_cases h1 : size < 2
  · have HF : Hid (stuffRes b size = ([], 3)) := by show _ = _; unfold stuffRes; rw [if_pos (.inl h1)]
    clear hb hn
    go_enter Tryd.func18, Tryd.ntmps18
    go_wp2
    go_ret2
    exact RT.mk HF.out (SG.nil_ _) (Below.refl _ _)
  by_cases h2 : 12 < size
  · have HF : Hid (stuffRes b size = ([], 3)) := by show _ = _; unfold stuffRes; rw [if_pos (.inr h2)]
    clear hb hn
    go_enter Tryd.func18, Tryd.ntmps18
    go_wp2
    go_ret2
    exact RT.mk HF.out (SG.nil_ _) (Below.refl _ _)
  by_cases h3 : n ≤ 1048576
  · obtain ⟨s, rfl⟩ := Int.eq_ofNat_of_zero_le (show 0 ≤ size by omega)
    have HF : stuffRes b s = (stuffL b s, 0) := by unfold stuffRes; rw [if_neg (by omega), if_neg (by omega)]; rfl
    rw [HF]
    exact Stuff_yes A n c s b w hb (by omega) (by omega) h3
  · have HF : Hid (stuffRes b size = ([], 4)) := by show _ = _; unfold stuffRes; rw [if_neg (by omega), if_pos (by omega)]
    have hd : decide ((1048576 : Int) < (n : Int)) = true := by simp; omega
    clear hb hn
    go_enter Tryd.func18, Tryd.ntmps18
    go_wp2
    go_ret2
    exact RT.mk HF.out (SG.nil_ _) (Below.refl _ _)
/-! characters 0 and 1 -/
def parB (s : ByteArray) : List Bool := s.data.toList.map fun x => x == 49
def parOk (s : ByteArray) : Bool := s.data.toList.all fun x => x == 48 || x == 49
set_option maxRecDepth 100000 in
set_option maxHeartbeats 2000000 in
theorem Parse_yes (s : ByteArray) (w : World) (hs : s.size ≤ 1000) (ho : parOk s = true) :
    Calls Tryd.prog 37 #[.string s] w (RT vB false w (parB s, 0)) := by
  obtain ⟨i0, hi, hz0, hz1, hz2⟩ := info_parts boolInfo
  have HO := Lib.hid ho
  clear ho
  go_enter Tryd.func37, Tryd.ntmps37
  go_wp2
  go_loopw [4, 5] (fun ov iv wr => ∃ k : Nat, k ≤ s.size ∧ iv = .int .i64 k ∧ Hid (OG vB 4 w wr ov ((parB s).take k))) (fun _ iv _ => s.size - (intOf iv).toNat)
  case atStart => exact ⟨0, Nat.zero_le _, rfl, OG.start _ _⟩
  case round =>
    obtain ⟨k, hk, rfl, hO⟩ := hrel
    by_cases hlt : k < s.size
    · have HK1 : Hid (∀ y, (s[k].toNat == 49) = y → (parB s).take (k + 1) = (parB s).take k ++ [y]) := by
        show ∀ y, _
        rintro y rfl
        rw [List.take_add_one]
        congr 1
        unfold parB
        have hl : k < s.data.toList.length := by simpa using hlt
        rw [List.getElem?_map, List.getElem?_eq_getElem hl]
        have e : s.data.toList[k] = s[k] := rfl
        rw [e]
        show [_] = [_]
        congr 1
        by_cases h : s[k] = 49
        · rw [h]; rfl
        · have h2 : ¬ (s[k].toNat = 49) := fun e => h (UInt8.toNat_inj.1 e)
          show (s[k] == 49) = _
          rw [beq_eq_false_iff_ne.2 h, beq_eq_false_iff_ne.2 h2]
      have hb : s[k].toNat = 48 ∨ s[k].toNat = 49 := by
        have h := HO.out
        unfold parOk at h
        rw [List.all_eq_true] at h
        have h2 := h s[k] (by
          have hl : k < s.data.toList.length := by simpa using hlt
          exact List.getElem_mem hl)
        rw [Bool.or_eq_true, beq_iff_eq, beq_iff_eq] at h2
        rcases h2 with h2 | h2
        · left; rw [h2]; rfl
        · right; rw [h2]; rfl
      rcases hb with hb | hb
      · have HK2 := Lib.hid (HK1.out false (by rw [hb]; rfl))
        go_wp2_with (at_builtin; refine wpList_append_G (f := vB) (d := false) oneB rfl _ _ _ rfl w.heap.size 4 i0 _ 1 Tryd.underlying24 hi hz0 hz1 hz2 rfl _ ((parB s).take k).length ((parB s).take k) rfl (hO.out.O.alloc _) (some ⟨wr.heap.size, 0, none⟩) 1 1 [false] rfl rfl (RG.one _ _ _ _ rfl) (by unfold maxLen; rw [List.length_take]; omega) (by rw [List.length_take]; omega) (by have := hO.out.B.size; simp; omega) ?_; intro v5 w5 hown hg; have HP := Lib.hid (hO.out.grow (bwA _ _) hown hg); clear hown hg)
        exact ⟨⟨k + 1, by omega, by go_num, by rw [HK2.out]; exact HP.out⟩, by simp [intOf]; omega⟩
      · have HK2 := Lib.hid (HK1.out true (by rw [hb]; rfl))
        go_wp2_with (at_builtin; refine wpList_append_G (f := vB) (d := false) oneB rfl _ _ _ rfl w.heap.size 4 i0 _ 1 Tryd.underlying24 hi hz0 hz1 hz2 rfl _ ((parB s).take k).length ((parB s).take k) rfl (hO.out.O.alloc _) (some ⟨wr.heap.size, 0, none⟩) 1 1 [true] rfl rfl (RG.one _ _ _ _ rfl) (by unfold maxLen; rw [List.length_take]; omega) (by rw [List.length_take]; omega) (by have := hO.out.B.size; simp; omega) ?_; intro v5 w5 hown hg; have HP := Lib.hid (hO.out.grow (bwA _ _) hown hg); clear hown hg)
        exact ⟨⟨k + 1, by omega, by go_num, by rw [HK2.out]; exact HP.out⟩, by simp [intOf]; omega⟩
    · obtain rfl : k = s.size := by omega
      have HT : Hid ((parB s).take s.size = parB s) := by
        show _ = _
        rw [List.take_of_length_le]
        unfold parB
        rw [List.length_map]
        exact Nat.le_refl _
      go_wp2
      go_ret2
      exact RT.mk rfl (by rw [← HT.out]; exact hO.out.sg) hO.out.B
end Go.Proofs.YtplppbfnlfehnaaDoor
