import Derived.Test.YtmnlkganmgcpbaaGreatDoorQa29
import Derived.Test.YtmnlkganmgcpbaaGreatDoorQa22
import Derived.Test.YtmnlkganmgcpbaaGreatDoorQa9
namespace Go.Proofs.YtmnlkganmgcpbaaGreatDoor
open Go.RowKit
set_option linter.unusedVariables false
set_option linter.unusedSectionVars false
set_option linter.unusedSimpArgs false
theorem RowIs.setc0 {w : World} {g : Nat} {u : Value} {t : TypeId} (h : RowIs w g #[u] t) (v : Value) : RowIs (w.setCell ⟨g, 0, none⟩ v) g #[v] t := heap_setCell_same w g 0 #[u] t v h
theorem RowIs.setcO {w : World} {g : Nat} {cur : Array Value} {t : TypeId} (h : RowIs w g cur t) (p : Addr) (v : Value) (hne : g ≠ p.block) : RowIs (w.setCell p v) g cur t := (Below.heap_setCell _ _ _ _ hne).trans h
set_option maxRecDepth 100000 in
set_option maxHeartbeats 4000000 in
theorem positions_full (L : Nat) (w : World) (hL : L ≤ 32) : Calls Tryz.prog 92 #[symv L false] w fun e w' => ∃ hb cb, e = .returned (.func (Fn.func 138) #[] #[.pointer (some ⟨hb, 0, none⟩), .pointer (some ⟨cb, 0, none⟩)]) ∧ HC L w' hb cb ∧ Below w.heap.size w w' := by
  have CF := sym_cells w L false
  have HSD : Hid (∀ W, Calls Tryz.prog 36 #[symv L false] W fun e w' => e = .returned (.int .i64 ((sideN L false : Nat) : Int)) ∧ Below W.heap.size W w') := fun W => side_any L false W hL
  have HBA : Hid (∀ W, Calls Tryz.prog 85 #[symv L false] W fun e w' => e = .returned (.int .i64 ((baseN L false : Nat) : Int)) ∧ Below W.heap.size W w') := fun W => base_any L false W hL
  have HBL := Lib.hid (base_le (c := false) hL)
  have HSL := Lib.hid (side_le (c := false) hL)
  unfold HC cenN
  generalize baseN L false = B at *
  generalize sideN L false = S at *
  obtain ⟨b1, b2⟩ := HBL.out
  obtain ⟨s1, s2⟩ := HSL.out
  obtain ⟨hh, hhh⟩ : ∃ hh, hh = B / 2 := ⟨_, rfl⟩
  obtain ⟨t, ht⟩ : ∃ t, t = (S - 1) / 2 := ⟨_, rfl⟩
  rw [← hhh, ← ht]
  have e1 : (B : Int) / 2 = (hh : Int) := by omega
  obtain ⟨S1, hS1⟩ : ∃ S1, S1 = S - 1 := ⟨_, rfl⟩
  have g1 : IntKind.i64.wrap ((S : Int) - 1) = (S1 : Int) := by rw [wr64 _ (by omega) (by omega)]; omega
  have e4 : (S1 : Int) / 2 = (t : Int) := by omega
  have g2 : IntKind.i64.wrap (t : Int) = (t : Int) := wr64 _ (by omega) (by omega)
  have g3 : IntKind.i64.wrap (hh : Int) = (hh : Int) := wr64 _ (by omega) (by omega)
  have hh9 : hh ≤ 200 := by omega
  have ht9 : t ≤ 200 := by omega
  clear hhh ht hS1
  obtain ⟨wS, hwS⟩ : ∃ wS, wS = w.alloc (symB L false) := ⟨_, rfl⟩
  have HWS : Hid (Below w.heap.size w wS) := by show Below _ _ _; rw [hwS]; exact bwA _ _
  rw [← hwS] at CF
  have HD0 : Hid (Abv wS wS.drew) := bwDrew (Below.refl _ _)
  obtain ⟨f0, f1⟩ := CF.out _ (Below.refl _ _)
  rw [hwS] at f0 f1
  go_enter Tryz.func92, Tryz.ntmps92
  go_wp2
  rw [← hwS]
  clear f0 f1 hwS
  refine wp_region_T (S := Abv wS) (.br [(false, 0), (false, 4)] [1, 7, 8] (fun k => if k = 1 then .br [(false, 2), (false, 3)] [5, 7, 8] (fun k => if k = 5 then .br [(false, 6)] [7, 8] (fun k => if k = 7 then .last [(true, 8), (true, 9), (true, 10)] else .last [(true, 7), (true, 9), (true, 10)]) else if k = 7 then .br [] [5, 8] (fun k => if k = 5 then .last [(false, 6), (true, 8), (true, 9), (true, 10)] else .last [(true, 5), (false, 6), (true, 9), (true, 10)]) else .br [] [5, 7] (fun k => if k = 5 then .last [(false, 6), (true, 7), (true, 9), (true, 10)] else .last [(true, 5), (false, 6), (true, 9), (true, 10)])) else if k = 7 then .br [] [1, 8] (fun k => if k = 1 then .br [(false, 2), (false, 3)] [5, 8] (fun k => if k = 5 then .last [(false, 6), (true, 8), (true, 9), (true, 10)] else .last [(true, 5), (false, 6), (true, 9), (true, 10)]) else .last [(true, 1), (false, 2), (false, 3), (true, 5), (false, 6), (true, 9), (true, 10)]) else .br [] [1, 7] (fun k => if k = 1 then .br [(false, 2), (false, 3)] [5, 7] (fun k => if k = 5 then .last [(false, 6), (true, 7), (true, 9), (true, 10)] else .last [(true, 5), (false, 6), (true, 9), (true, 10)]) else .last [(true, 1), (false, 2), (false, 3), (true, 5), (false, 6), (true, 9), (true, 10)]))) (by kernel_rfl) (by kernel_rfl) HD0.out ?_
  simp only [reduceIte, Nat.reduceEqDiff, wpTree, attachW, List.getElem?_cons_zero, List.getElem?_cons_succ]
  repeat
    refine' wpHX_val rfl (fun W hW => ?_) ?_
    rotate_left
    · have hcf := CF.out W hW; go_simp; rfl
    simp only [Act.put, List.setIfInBounds_toArray, List.set_cons_zero, List.set_cons_succ]
  refine wpHX_nil ?_
  intro k hk
  simp only [List.mem_cons, List.not_mem_nil, or_false] at hk
  rcases hk with rfl | rfl | rfl
  · simp only [reduceIte, Nat.reduceEqDiff, wpTree, attachW, List.getElem?_cons_zero, List.getElem?_cons_succ]
    refine' wpHX_acall rfl (fun W => ?_) ?_
    rotate_left 2
    · go_simp; exact ⟨rfl, rfl⟩
    refine (HSD.out _).mono ?_
    rintro e U1 ⟨rfl, hb⟩
    have HB1 : Hid (Abv wS U1) := bwStep HD0.out hb
    clear hb
    refine ⟨_, rfl, HB1.out, ?_⟩
    simp only [Act.put, List.setIfInBounds_toArray, List.set_cons_zero, List.set_cons_succ]
    refine wpHX_nil ?_
    (try simp only [reduceIte, Nat.reduceEqDiff, wpTree, attachW, List.getElem?_cons_zero, List.getElem?_cons_succ])
    repeat
      refine' wpHX_val rfl (fun W hW => ?_) ?_
      rotate_left
      · have hcf := CF.out W hW; go_simp; rfl
      simp only [Act.put, List.setIfInBounds_toArray, List.set_cons_zero, List.set_cons_succ]
    refine wpHX_nil ?_
    intro k hk
    simp only [List.mem_cons, List.not_mem_nil, or_false] at hk
    rcases hk with rfl | rfl | rfl
    · simp only [reduceIte, Nat.reduceEqDiff, wpTree, attachW, List.getElem?_cons_zero, List.getElem?_cons_succ]
      refine' wpHX_acall rfl (fun W => ?_) ?_
      rotate_left 2
      · go_simp; exact ⟨rfl, rfl⟩
      refine (HBA.out _).mono ?_
      rintro e U2 ⟨rfl, hb⟩
      have HB2 : Hid (Abv wS U2) := bwStep HB1.out hb
      clear hb
      refine ⟨_, rfl, HB2.out, ?_⟩
      simp only [Act.put, List.setIfInBounds_toArray, List.set_cons_zero, List.set_cons_succ]
      refine wpHX_nil ?_
      (try simp only [reduceIte, Nat.reduceEqDiff, wpTree, attachW, List.getElem?_cons_zero, List.getElem?_cons_succ])
      repeat
        refine' wpHX_val rfl (fun W hW => ?_) ?_
        rotate_left
        · have hcf := CF.out W hW; go_simp; rfl
        simp only [Act.put, List.setIfInBounds_toArray, List.set_cons_zero, List.set_cons_succ]
      refine wpHX_nil ?_
      intro k hk
      simp only [List.mem_cons, List.not_mem_nil, or_false] at hk
      rcases hk with rfl | rfl
      · simp only [reduceIte, Nat.reduceEqDiff, wpTree, attachW, List.getElem?_cons_zero, List.getElem?_cons_succ]
        obtain ⟨U3, hU3⟩ : ∃ U, U = U2.alloc (.cells #[.int .i64 0] 3) := ⟨_, rfl⟩
        obtain ⟨b3, hb3⟩ : ∃ b, b = U2.heap.size := ⟨_, rfl⟩
        have HU3 : Hid (Below U2.heap.size U2 U3) := by show Below _ _ _; rw [hU3]; exact bwA _ _
        have HB3 : Hid (Abv wS U3) := bwStep HB2.out HU3.out
        have N3 : Hid (RowIs U3 b3 #[.int .i64 0] 3 ∧ wS.heap.size ≤ b3) := by show _ ∧ _; rw [hU3, hb3]; exact ⟨RowIs.new _ _ _ _ (by simp), HB2.out.size⟩
        have R3_3 := Lib.hid N3.out.1
        have bR3_3 := Lib.hid N3.out.2
        refine' wpHX_aval (v := .pointer (some ⟨b3, 0, none⟩)) (w' := U3) rfl (by rw [hb3, hU3]; go_simp) HB3.out ?_
        simp only [Act.put, List.setIfInBounds_toArray, List.set_cons_zero, List.set_cons_succ]
        clear hU3 hb3
        refine wpHX_nil ?_
        (try simp only [reduceIte, Nat.reduceEqDiff, wpTree, attachW, List.getElem?_cons_zero, List.getElem?_cons_succ])
        obtain ⟨U4, hU4⟩ : ∃ U, U = U3.alloc (.cells #[.int .i64 0] 3) := ⟨_, rfl⟩
        obtain ⟨b4, hb4⟩ : ∃ b, b = U3.heap.size := ⟨_, rfl⟩
        have HU4 : Hid (Below U3.heap.size U3 U4) := by show Below _ _ _; rw [hU4]; exact bwA _ _
        have HB4 : Hid (Abv wS U4) := bwStep HB3.out HU4.out
        have N4 : Hid (RowIs U4 b4 #[.int .i64 0] 3 ∧ wS.heap.size ≤ b4) := by show _ ∧ _; rw [hU4, hb4]; exact ⟨RowIs.new _ _ _ _ (by simp), HB3.out.size⟩
        have E4 : Hid (b3 ≠ b4) := by show _ ≠ _; rw [hb4]; exact Nat.ne_of_lt (lt_of_heap R3_3.out)
        have R3_4 := Lib.hid (R3_3.out.below HU4.out)
        have R4_4 := Lib.hid N4.out.1
        have bR4_4 := Lib.hid N4.out.2
        refine' wpHX_aval (v := .pointer (some ⟨b4, 0, none⟩)) (w' := U4) rfl (by rw [hb4, hU4]; go_simp) HB4.out ?_
        simp only [Act.put, List.setIfInBounds_toArray, List.set_cons_zero, List.set_cons_succ]
        clear hU4 hb4
        obtain ⟨U5, hU5⟩ : ∃ U, U = U4.setCell ⟨b3, 0, none⟩ (.int .i64 (t : Int)) := ⟨_, rfl⟩
        have HB5 : Hid (Abv wS U5) := by show Below _ _ _; rw [hU5]; exact HB4.out.setCell (by exact bR3_3.out) _
        have R3_5 : Hid (RowIs U5 b3 #[.int .i64 (t : Int)] 3) := by show RowIs _ _ _ _; rw [hU5]; exact R3_4.out.setc0 _
        have R4_5 := Lib.hid (R4_4.out.setcO ⟨b3, 0, none⟩ (.int .i64 (t : Int)) (E4.out.symm))
        rw [← hU5] at R4_5
        refine' wpHX_askip (w' := U5) rfl (by rw [hU5]; exact exec_storeI rfl ⟨b3, 0, none⟩ t rfl rfl (R3_4.out.cell 0 _ rfl) (frozen_of_row _ _ _ _ _ R3_4.out)) HB5.out ?_
        simp only [Act.put, List.setIfInBounds_toArray, List.set_cons_zero, List.set_cons_succ]
        clear hU5
        obtain ⟨U6, hU6⟩ : ∃ U, U = U5.setCell ⟨b4, 0, none⟩ (.int .i64 (hh : Int)) := ⟨_, rfl⟩
        have HB6 : Hid (Abv wS U6) := by show Below _ _ _; rw [hU6]; exact HB5.out.setCell (by exact bR4_4.out) _
        have R4_6 : Hid (RowIs U6 b4 #[.int .i64 (hh : Int)] 3) := by show RowIs _ _ _ _; rw [hU6]; exact R4_5.out.setc0 _
        have R3_6 := Lib.hid (R3_5.out.setcO ⟨b4, 0, none⟩ (.int .i64 (hh : Int)) (E4.out))
        rw [← hU6] at R3_6
        refine' wpHX_askip (w' := U6) rfl (by rw [hU6]; exact exec_storeI rfl ⟨b4, 0, none⟩ hh rfl rfl (R4_5.out.cell 0 _ rfl) (frozen_of_row _ _ _ _ _ R4_5.out)) HB6.out ?_
        simp only [Act.put, List.setIfInBounds_toArray, List.set_cons_zero, List.set_cons_succ]
        clear hU6
        refine wpHX_nil ?_
        clear HBA HSD
        go_wp2
        go_ret
        exact ⟨_, _, rfl, ⟨R4_6.out, R3_6.out⟩, bwStep HWS.out HB6.out⟩
      · simp only [reduceIte, Nat.reduceEqDiff, wpTree, attachW, List.getElem?_cons_zero, List.getElem?_cons_succ]
        obtain ⟨U7, hU7⟩ : ∃ U, U = U2.alloc (.cells #[.int .i64 0] 3) := ⟨_, rfl⟩
        obtain ⟨b7, hb7⟩ : ∃ b, b = U2.heap.size := ⟨_, rfl⟩
        have HU7 : Hid (Below U2.heap.size U2 U7) := by show Below _ _ _; rw [hU7]; exact bwA _ _
        have HB7 : Hid (Abv wS U7) := bwStep HB2.out HU7.out
        have N7 : Hid (RowIs U7 b7 #[.int .i64 0] 3 ∧ wS.heap.size ≤ b7) := by show _ ∧ _; rw [hU7, hb7]; exact ⟨RowIs.new _ _ _ _ (by simp), HB2.out.size⟩
        have R4_7 := Lib.hid N7.out.1
        have bR4_7 := Lib.hid N7.out.2
        refine' wpHX_aval (v := .pointer (some ⟨b7, 0, none⟩)) (w' := U7) rfl (by rw [hb7, hU7]; go_simp) HB7.out ?_
        simp only [Act.put, List.setIfInBounds_toArray, List.set_cons_zero, List.set_cons_succ]
        clear hU7 hb7
        refine wpHX_nil ?_
        (try simp only [reduceIte, Nat.reduceEqDiff, wpTree, attachW, List.getElem?_cons_zero, List.getElem?_cons_succ])
        obtain ⟨U8, hU8⟩ : ∃ U, U = U7.alloc (.cells #[.int .i64 0] 3) := ⟨_, rfl⟩
        obtain ⟨b8, hb8⟩ : ∃ b, b = U7.heap.size := ⟨_, rfl⟩
        have HU8 : Hid (Below U7.heap.size U7 U8) := by show Below _ _ _; rw [hU8]; exact bwA _ _
        have HB8 : Hid (Abv wS U8) := bwStep HB7.out HU8.out
        have N8 : Hid (RowIs U8 b8 #[.int .i64 0] 3 ∧ wS.heap.size ≤ b8) := by show _ ∧ _; rw [hU8, hb8]; exact ⟨RowIs.new _ _ _ _ (by simp), HB7.out.size⟩
        have E8 : Hid (b7 ≠ b8) := by show _ ≠ _; rw [hb8]; exact Nat.ne_of_lt (lt_of_heap R4_7.out)
        have R4_8 := Lib.hid (R4_7.out.below HU8.out)
        have R3_8 := Lib.hid N8.out.1
        have bR3_8 := Lib.hid N8.out.2
        refine' wpHX_aval (v := .pointer (some ⟨b8, 0, none⟩)) (w' := U8) rfl (by rw [hb8, hU8]; go_simp) HB8.out ?_
        simp only [Act.put, List.setIfInBounds_toArray, List.set_cons_zero, List.set_cons_succ]
        clear hU8 hb8
        obtain ⟨U9, hU9⟩ : ∃ U, U = U8.setCell ⟨b8, 0, none⟩ (.int .i64 (t : Int)) := ⟨_, rfl⟩
        have HB9 : Hid (Abv wS U9) := by show Below _ _ _; rw [hU9]; exact HB8.out.setCell (by exact bR3_8.out) _
        have R3_9 : Hid (RowIs U9 b8 #[.int .i64 (t : Int)] 3) := by show RowIs _ _ _ _; rw [hU9]; exact R3_8.out.setc0 _
        have R4_9 := Lib.hid (R4_8.out.setcO ⟨b8, 0, none⟩ (.int .i64 (t : Int)) (E8.out.symm.symm))
        rw [← hU9] at R4_9
        refine' wpHX_askip (w' := U9) rfl (by rw [hU9]; exact exec_storeI rfl ⟨b8, 0, none⟩ t rfl rfl (R3_8.out.cell 0 _ rfl) (frozen_of_row _ _ _ _ _ R3_8.out)) HB9.out ?_
        simp only [Act.put, List.setIfInBounds_toArray, List.set_cons_zero, List.set_cons_succ]
        clear hU9
        obtain ⟨U10, hU10⟩ : ∃ U, U = U9.setCell ⟨b7, 0, none⟩ (.int .i64 (hh : Int)) := ⟨_, rfl⟩
        have HB10 : Hid (Abv wS U10) := by show Below _ _ _; rw [hU10]; exact HB9.out.setCell (by exact bR4_7.out) _
        have R4_10 : Hid (RowIs U10 b7 #[.int .i64 (hh : Int)] 3) := by show RowIs _ _ _ _; rw [hU10]; exact R4_9.out.setc0 _
        have R3_10 := Lib.hid (R3_9.out.setcO ⟨b7, 0, none⟩ (.int .i64 (hh : Int)) (E8.out.symm))
        rw [← hU10] at R3_10
        refine' wpHX_askip (w' := U10) rfl (by rw [hU10]; exact exec_storeI rfl ⟨b7, 0, none⟩ hh rfl rfl (R4_9.out.cell 0 _ rfl) (frozen_of_row _ _ _ _ _ R4_9.out)) HB10.out ?_
        simp only [Act.put, List.setIfInBounds_toArray, List.set_cons_zero, List.set_cons_succ]
        clear hU10
        refine wpHX_nil ?_
        clear HBA HSD
        go_wp2
        go_ret
        exact ⟨_, _, rfl, ⟨R4_10.out, R3_10.out⟩, bwStep HWS.out HB10.out⟩
    · simp only [reduceIte, Nat.reduceEqDiff, wpTree, attachW, List.getElem?_cons_zero, List.getElem?_cons_succ]
      obtain ⟨U11, hU11⟩ : ∃ U, U = U1.alloc (.cells #[.int .i64 0] 3) := ⟨_, rfl⟩
      obtain ⟨b11, hb11⟩ : ∃ b, b = U1.heap.size := ⟨_, rfl⟩
      have HU11 : Hid (Below U1.heap.size U1 U11) := by show Below _ _ _; rw [hU11]; exact bwA _ _
      have HB11 : Hid (Abv wS U11) := bwStep HB1.out HU11.out
      have N11 : Hid (RowIs U11 b11 #[.int .i64 0] 3 ∧ wS.heap.size ≤ b11) := by show _ ∧ _; rw [hU11, hb11]; exact ⟨RowIs.new _ _ _ _ (by simp), HB1.out.size⟩
      have R3_11 := Lib.hid N11.out.1
      have bR3_11 := Lib.hid N11.out.2
      refine' wpHX_aval (v := .pointer (some ⟨b11, 0, none⟩)) (w' := U11) rfl (by rw [hb11, hU11]; go_simp) HB11.out ?_
      simp only [Act.put, List.setIfInBounds_toArray, List.set_cons_zero, List.set_cons_succ]
      clear hU11 hb11
      refine wpHX_nil ?_
      (try simp only [reduceIte, Nat.reduceEqDiff, wpTree, attachW, List.getElem?_cons_zero, List.getElem?_cons_succ])
      refine wpHX_nil ?_
      intro k hk
      simp only [List.mem_cons, List.not_mem_nil, or_false] at hk
      rcases hk with rfl | rfl
      · simp only [reduceIte, Nat.reduceEqDiff, wpTree, attachW, List.getElem?_cons_zero, List.getElem?_cons_succ]
        refine' wpHX_acall rfl (fun W => ?_) ?_
        rotate_left 2
        · go_simp; exact ⟨rfl, rfl⟩
        refine (HBA.out _).mono ?_
        rintro e U12 ⟨rfl, hb⟩
        have HB12 : Hid (Abv wS U12) := bwStep HB11.out hb
        have R3_12 := Lib.hid (R3_11.out.below hb)
        clear hb
        refine ⟨_, rfl, HB12.out, ?_⟩
        simp only [Act.put, List.setIfInBounds_toArray, List.set_cons_zero, List.set_cons_succ]
        refine wpHX_nil ?_
        (try simp only [reduceIte, Nat.reduceEqDiff, wpTree, attachW, List.getElem?_cons_zero, List.getElem?_cons_succ])
        repeat
          refine' wpHX_val rfl (fun W hW => ?_) ?_
          rotate_left
          · have hcf := CF.out W hW; go_simp; rfl
          simp only [Act.put, List.setIfInBounds_toArray, List.set_cons_zero, List.set_cons_succ]
        obtain ⟨U13, hU13⟩ : ∃ U, U = U12.alloc (.cells #[.int .i64 0] 3) := ⟨_, rfl⟩
        obtain ⟨b13, hb13⟩ : ∃ b, b = U12.heap.size := ⟨_, rfl⟩
        have HU13 : Hid (Below U12.heap.size U12 U13) := by show Below _ _ _; rw [hU13]; exact bwA _ _
        have HB13 : Hid (Abv wS U13) := bwStep HB12.out HU13.out
        have N13 : Hid (RowIs U13 b13 #[.int .i64 0] 3 ∧ wS.heap.size ≤ b13) := by show _ ∧ _; rw [hU13, hb13]; exact ⟨RowIs.new _ _ _ _ (by simp), HB12.out.size⟩
        have E13 : Hid (b11 ≠ b13) := by show _ ≠ _; rw [hb13]; exact Nat.ne_of_lt (lt_of_heap R3_12.out)
        have R3_13 := Lib.hid (R3_12.out.below HU13.out)
        have R4_13 := Lib.hid N13.out.1
        have bR4_13 := Lib.hid N13.out.2
        refine' wpHX_aval (v := .pointer (some ⟨b13, 0, none⟩)) (w' := U13) rfl (by rw [hb13, hU13]; go_simp) HB13.out ?_
        simp only [Act.put, List.setIfInBounds_toArray, List.set_cons_zero, List.set_cons_succ]
        clear hU13 hb13
        obtain ⟨U14, hU14⟩ : ∃ U, U = U13.setCell ⟨b11, 0, none⟩ (.int .i64 (t : Int)) := ⟨_, rfl⟩
        have HB14 : Hid (Abv wS U14) := by show Below _ _ _; rw [hU14]; exact HB13.out.setCell (by exact bR3_11.out) _
        have R3_14 : Hid (RowIs U14 b11 #[.int .i64 (t : Int)] 3) := by show RowIs _ _ _ _; rw [hU14]; exact R3_13.out.setc0 _
        have R4_14 := Lib.hid (R4_13.out.setcO ⟨b11, 0, none⟩ (.int .i64 (t : Int)) (E13.out.symm))
        rw [← hU14] at R4_14
        refine' wpHX_askip (w' := U14) rfl (by rw [hU14]; exact exec_storeI rfl ⟨b11, 0, none⟩ t rfl rfl (R3_13.out.cell 0 _ rfl) (frozen_of_row _ _ _ _ _ R3_13.out)) HB14.out ?_
        simp only [Act.put, List.setIfInBounds_toArray, List.set_cons_zero, List.set_cons_succ]
        clear hU14
        obtain ⟨U15, hU15⟩ : ∃ U, U = U14.setCell ⟨b13, 0, none⟩ (.int .i64 (hh : Int)) := ⟨_, rfl⟩
        have HB15 : Hid (Abv wS U15) := by show Below _ _ _; rw [hU15]; exact HB14.out.setCell (by exact bR4_13.out) _
        have R4_15 : Hid (RowIs U15 b13 #[.int .i64 (hh : Int)] 3) := by show RowIs _ _ _ _; rw [hU15]; exact R4_14.out.setc0 _
        have R3_15 := Lib.hid (R3_14.out.setcO ⟨b13, 0, none⟩ (.int .i64 (hh : Int)) (E13.out))
        rw [← hU15] at R3_15
        refine' wpHX_askip (w' := U15) rfl (by rw [hU15]; exact exec_storeI rfl ⟨b13, 0, none⟩ hh rfl rfl (R4_14.out.cell 0 _ rfl) (frozen_of_row _ _ _ _ _ R4_14.out)) HB15.out ?_
        simp only [Act.put, List.setIfInBounds_toArray, List.set_cons_zero, List.set_cons_succ]
        clear hU15
        refine wpHX_nil ?_
        clear HBA HSD
        go_wp2
        go_ret
        exact ⟨_, _, rfl, ⟨R4_15.out, R3_15.out⟩, bwStep HWS.out HB15.out⟩
      · simp only [reduceIte, Nat.reduceEqDiff, wpTree, attachW, List.getElem?_cons_zero, List.getElem?_cons_succ]
        obtain ⟨U16, hU16⟩ : ∃ U, U = U11.alloc (.cells #[.int .i64 0] 3) := ⟨_, rfl⟩
        obtain ⟨b16, hb16⟩ : ∃ b, b = U11.heap.size := ⟨_, rfl⟩
        have HU16 : Hid (Below U11.heap.size U11 U16) := by show Below _ _ _; rw [hU16]; exact bwA _ _
        have HB16 : Hid (Abv wS U16) := bwStep HB11.out HU16.out
        have N16 : Hid (RowIs U16 b16 #[.int .i64 0] 3 ∧ wS.heap.size ≤ b16) := by show _ ∧ _; rw [hU16, hb16]; exact ⟨RowIs.new _ _ _ _ (by simp), HB11.out.size⟩
        have E16 : Hid (b11 ≠ b16) := by show _ ≠ _; rw [hb16]; exact Nat.ne_of_lt (lt_of_heap R3_11.out)
        have R3_16 := Lib.hid (R3_11.out.below HU16.out)
        have R4_16 := Lib.hid N16.out.1
        have bR4_16 := Lib.hid N16.out.2
        refine' wpHX_aval (v := .pointer (some ⟨b16, 0, none⟩)) (w' := U16) rfl (by rw [hb16, hU16]; go_simp) HB16.out ?_
        simp only [Act.put, List.setIfInBounds_toArray, List.set_cons_zero, List.set_cons_succ]
        clear hU16 hb16
        refine wpHX_nil ?_
        (try simp only [reduceIte, Nat.reduceEqDiff, wpTree, attachW, List.getElem?_cons_zero, List.getElem?_cons_succ])
        refine' wpHX_acall rfl (fun W => ?_) ?_
        rotate_left 2
        · go_simp; exact ⟨rfl, rfl⟩
        refine (HBA.out _).mono ?_
        rintro e U17 ⟨rfl, hb⟩
        have HB17 : Hid (Abv wS U17) := bwStep HB16.out hb
        have R3_17 := Lib.hid (R3_16.out.below hb)
        have R4_17 := Lib.hid (R4_16.out.below hb)
        clear hb
        refine ⟨_, rfl, HB17.out, ?_⟩
        simp only [Act.put, List.setIfInBounds_toArray, List.set_cons_zero, List.set_cons_succ]
        repeat
          refine' wpHX_val rfl (fun W hW => ?_) ?_
          rotate_left
          · have hcf := CF.out W hW; go_simp; rfl
          simp only [Act.put, List.setIfInBounds_toArray, List.set_cons_zero, List.set_cons_succ]
        obtain ⟨U18, hU18⟩ : ∃ U, U = U17.setCell ⟨b11, 0, none⟩ (.int .i64 (t : Int)) := ⟨_, rfl⟩
        have HB18 : Hid (Abv wS U18) := by show Below _ _ _; rw [hU18]; exact HB17.out.setCell (by exact bR3_11.out) _
        have R3_18 : Hid (RowIs U18 b11 #[.int .i64 (t : Int)] 3) := by show RowIs _ _ _ _; rw [hU18]; exact R3_17.out.setc0 _
        have R4_18 := Lib.hid (R4_17.out.setcO ⟨b11, 0, none⟩ (.int .i64 (t : Int)) (E16.out.symm))
        rw [← hU18] at R4_18
        refine' wpHX_askip (w' := U18) rfl (by rw [hU18]; exact exec_storeI rfl ⟨b11, 0, none⟩ t rfl rfl (R3_17.out.cell 0 _ rfl) (frozen_of_row _ _ _ _ _ R3_17.out)) HB18.out ?_
        simp only [Act.put, List.setIfInBounds_toArray, List.set_cons_zero, List.set_cons_succ]
        clear hU18
        obtain ⟨U19, hU19⟩ : ∃ U, U = U18.setCell ⟨b16, 0, none⟩ (.int .i64 (hh : Int)) := ⟨_, rfl⟩
        have HB19 : Hid (Abv wS U19) := by show Below _ _ _; rw [hU19]; exact HB18.out.setCell (by exact bR4_16.out) _
        have R4_19 : Hid (RowIs U19 b16 #[.int .i64 (hh : Int)] 3) := by show RowIs _ _ _ _; rw [hU19]; exact R4_18.out.setc0 _
        have R3_19 := Lib.hid (R3_18.out.setcO ⟨b16, 0, none⟩ (.int .i64 (hh : Int)) (E16.out))
        rw [← hU19] at R3_19
        refine' wpHX_askip (w' := U19) rfl (by rw [hU19]; exact exec_storeI rfl ⟨b16, 0, none⟩ hh rfl rfl (R4_18.out.cell 0 _ rfl) (frozen_of_row _ _ _ _ _ R4_18.out)) HB19.out ?_
        simp only [Act.put, List.setIfInBounds_toArray, List.set_cons_zero, List.set_cons_succ]
        clear hU19
        refine wpHX_nil ?_
        clear HBA HSD
        go_wp2
        go_ret
        exact ⟨_, _, rfl, ⟨R4_19.out, R3_19.out⟩, bwStep HWS.out HB19.out⟩
    · simp only [reduceIte, Nat.reduceEqDiff, wpTree, attachW, List.getElem?_cons_zero, List.getElem?_cons_succ]
      obtain ⟨U20, hU20⟩ : ∃ U, U = U1.alloc (.cells #[.int .i64 0] 3) := ⟨_, rfl⟩
      obtain ⟨b20, hb20⟩ : ∃ b, b = U1.heap.size := ⟨_, rfl⟩
      have HU20 : Hid (Below U1.heap.size U1 U20) := by show Below _ _ _; rw [hU20]; exact bwA _ _
      have HB20 : Hid (Abv wS U20) := bwStep HB1.out HU20.out
      have N20 : Hid (RowIs U20 b20 #[.int .i64 0] 3 ∧ wS.heap.size ≤ b20) := by show _ ∧ _; rw [hU20, hb20]; exact ⟨RowIs.new _ _ _ _ (by simp), HB1.out.size⟩
      have R4_20 := Lib.hid N20.out.1
      have bR4_20 := Lib.hid N20.out.2
      refine' wpHX_aval (v := .pointer (some ⟨b20, 0, none⟩)) (w' := U20) rfl (by rw [hb20, hU20]; go_simp) HB20.out ?_
      simp only [Act.put, List.setIfInBounds_toArray, List.set_cons_zero, List.set_cons_succ]
      clear hU20 hb20
      refine wpHX_nil ?_
      (try simp only [reduceIte, Nat.reduceEqDiff, wpTree, attachW, List.getElem?_cons_zero, List.getElem?_cons_succ])
      refine wpHX_nil ?_
      intro k hk
      simp only [List.mem_cons, List.not_mem_nil, or_false] at hk
      rcases hk with rfl | rfl
      · simp only [reduceIte, Nat.reduceEqDiff, wpTree, attachW, List.getElem?_cons_zero, List.getElem?_cons_succ]
        refine' wpHX_acall rfl (fun W => ?_) ?_
        rotate_left 2
        · go_simp; exact ⟨rfl, rfl⟩
        refine (HBA.out _).mono ?_
        rintro e U21 ⟨rfl, hb⟩
        have HB21 : Hid (Abv wS U21) := bwStep HB20.out hb
        have R4_21 := Lib.hid (R4_20.out.below hb)
        clear hb
        refine ⟨_, rfl, HB21.out, ?_⟩
        simp only [Act.put, List.setIfInBounds_toArray, List.set_cons_zero, List.set_cons_succ]
        refine wpHX_nil ?_
        (try simp only [reduceIte, Nat.reduceEqDiff, wpTree, attachW, List.getElem?_cons_zero, List.getElem?_cons_succ])
        repeat
          refine' wpHX_val rfl (fun W hW => ?_) ?_
          rotate_left
          · have hcf := CF.out W hW; go_simp; rfl
          simp only [Act.put, List.setIfInBounds_toArray, List.set_cons_zero, List.set_cons_succ]
        obtain ⟨U22, hU22⟩ : ∃ U, U = U21.alloc (.cells #[.int .i64 0] 3) := ⟨_, rfl⟩
        obtain ⟨b22, hb22⟩ : ∃ b, b = U21.heap.size := ⟨_, rfl⟩
        have HU22 : Hid (Below U21.heap.size U21 U22) := by show Below _ _ _; rw [hU22]; exact bwA _ _
        have HB22 : Hid (Abv wS U22) := bwStep HB21.out HU22.out
        have N22 : Hid (RowIs U22 b22 #[.int .i64 0] 3 ∧ wS.heap.size ≤ b22) := by show _ ∧ _; rw [hU22, hb22]; exact ⟨RowIs.new _ _ _ _ (by simp), HB21.out.size⟩
        have E22 : Hid (b20 ≠ b22) := by show _ ≠ _; rw [hb22]; exact Nat.ne_of_lt (lt_of_heap R4_21.out)
        have R4_22 := Lib.hid (R4_21.out.below HU22.out)
        have R3_22 := Lib.hid N22.out.1
        have bR3_22 := Lib.hid N22.out.2
        refine' wpHX_aval (v := .pointer (some ⟨b22, 0, none⟩)) (w' := U22) rfl (by rw [hb22, hU22]; go_simp) HB22.out ?_
        simp only [Act.put, List.setIfInBounds_toArray, List.set_cons_zero, List.set_cons_succ]
        clear hU22 hb22
        obtain ⟨U23, hU23⟩ : ∃ U, U = U22.setCell ⟨b22, 0, none⟩ (.int .i64 (t : Int)) := ⟨_, rfl⟩
        have HB23 : Hid (Abv wS U23) := by show Below _ _ _; rw [hU23]; exact HB22.out.setCell (by exact bR3_22.out) _
        have R3_23 : Hid (RowIs U23 b22 #[.int .i64 (t : Int)] 3) := by show RowIs _ _ _ _; rw [hU23]; exact R3_22.out.setc0 _
        have R4_23 := Lib.hid (R4_22.out.setcO ⟨b22, 0, none⟩ (.int .i64 (t : Int)) (E22.out.symm.symm))
        rw [← hU23] at R4_23
        refine' wpHX_askip (w' := U23) rfl (by rw [hU23]; exact exec_storeI rfl ⟨b22, 0, none⟩ t rfl rfl (R3_22.out.cell 0 _ rfl) (frozen_of_row _ _ _ _ _ R3_22.out)) HB23.out ?_
        simp only [Act.put, List.setIfInBounds_toArray, List.set_cons_zero, List.set_cons_succ]
        clear hU23
        obtain ⟨U24, hU24⟩ : ∃ U, U = U23.setCell ⟨b20, 0, none⟩ (.int .i64 (hh : Int)) := ⟨_, rfl⟩
        have HB24 : Hid (Abv wS U24) := by show Below _ _ _; rw [hU24]; exact HB23.out.setCell (by exact bR4_20.out) _
        have R4_24 : Hid (RowIs U24 b20 #[.int .i64 (hh : Int)] 3) := by show RowIs _ _ _ _; rw [hU24]; exact R4_23.out.setc0 _
        have R3_24 := Lib.hid (R3_23.out.setcO ⟨b20, 0, none⟩ (.int .i64 (hh : Int)) (E22.out.symm))
        rw [← hU24] at R3_24
        refine' wpHX_askip (w' := U24) rfl (by rw [hU24]; exact exec_storeI rfl ⟨b20, 0, none⟩ hh rfl rfl (R4_23.out.cell 0 _ rfl) (frozen_of_row _ _ _ _ _ R4_23.out)) HB24.out ?_
        simp only [Act.put, List.setIfInBounds_toArray, List.set_cons_zero, List.set_cons_succ]
        clear hU24
        refine wpHX_nil ?_
        clear HBA HSD
        go_wp2
        go_ret
        exact ⟨_, _, rfl, ⟨R4_24.out, R3_24.out⟩, bwStep HWS.out HB24.out⟩
      · simp only [reduceIte, Nat.reduceEqDiff, wpTree, attachW, List.getElem?_cons_zero, List.getElem?_cons_succ]
        obtain ⟨U25, hU25⟩ : ∃ U, U = U20.alloc (.cells #[.int .i64 0] 3) := ⟨_, rfl⟩
        obtain ⟨b25, hb25⟩ : ∃ b, b = U20.heap.size := ⟨_, rfl⟩
        have HU25 : Hid (Below U20.heap.size U20 U25) := by show Below _ _ _; rw [hU25]; exact bwA _ _
        have HB25 : Hid (Abv wS U25) := bwStep HB20.out HU25.out
        have N25 : Hid (RowIs U25 b25 #[.int .i64 0] 3 ∧ wS.heap.size ≤ b25) := by show _ ∧ _; rw [hU25, hb25]; exact ⟨RowIs.new _ _ _ _ (by simp), HB20.out.size⟩
        have E25 : Hid (b20 ≠ b25) := by show _ ≠ _; rw [hb25]; exact Nat.ne_of_lt (lt_of_heap R4_20.out)
        have R4_25 := Lib.hid (R4_20.out.below HU25.out)
        have R3_25 := Lib.hid N25.out.1
        have bR3_25 := Lib.hid N25.out.2
        refine' wpHX_aval (v := .pointer (some ⟨b25, 0, none⟩)) (w' := U25) rfl (by rw [hb25, hU25]; go_simp) HB25.out ?_
        simp only [Act.put, List.setIfInBounds_toArray, List.set_cons_zero, List.set_cons_succ]
        clear hU25 hb25
        refine wpHX_nil ?_
        (try simp only [reduceIte, Nat.reduceEqDiff, wpTree, attachW, List.getElem?_cons_zero, List.getElem?_cons_succ])
        refine' wpHX_acall rfl (fun W => ?_) ?_
        rotate_left 2
        · go_simp; exact ⟨rfl, rfl⟩
        refine (HBA.out _).mono ?_
        rintro e U26 ⟨rfl, hb⟩
        have HB26 : Hid (Abv wS U26) := bwStep HB25.out hb
        have R3_26 := Lib.hid (R3_25.out.below hb)
        have R4_26 := Lib.hid (R4_25.out.below hb)
        clear hb
        refine ⟨_, rfl, HB26.out, ?_⟩
        simp only [Act.put, List.setIfInBounds_toArray, List.set_cons_zero, List.set_cons_succ]
        repeat
          refine' wpHX_val rfl (fun W hW => ?_) ?_
          rotate_left
          · have hcf := CF.out W hW; go_simp; rfl
          simp only [Act.put, List.setIfInBounds_toArray, List.set_cons_zero, List.set_cons_succ]
        obtain ⟨U27, hU27⟩ : ∃ U, U = U26.setCell ⟨b25, 0, none⟩ (.int .i64 (t : Int)) := ⟨_, rfl⟩
        have HB27 : Hid (Abv wS U27) := by show Below _ _ _; rw [hU27]; exact HB26.out.setCell (by exact bR3_25.out) _
        have R3_27 : Hid (RowIs U27 b25 #[.int .i64 (t : Int)] 3) := by show RowIs _ _ _ _; rw [hU27]; exact R3_26.out.setc0 _
        have R4_27 := Lib.hid (R4_26.out.setcO ⟨b25, 0, none⟩ (.int .i64 (t : Int)) (E25.out.symm.symm))
        rw [← hU27] at R4_27
        refine' wpHX_askip (w' := U27) rfl (by rw [hU27]; exact exec_storeI rfl ⟨b25, 0, none⟩ t rfl rfl (R3_26.out.cell 0 _ rfl) (frozen_of_row _ _ _ _ _ R3_26.out)) HB27.out ?_
        simp only [Act.put, List.setIfInBounds_toArray, List.set_cons_zero, List.set_cons_succ]
        clear hU27
        obtain ⟨U28, hU28⟩ : ∃ U, U = U27.setCell ⟨b20, 0, none⟩ (.int .i64 (hh : Int)) := ⟨_, rfl⟩
        have HB28 : Hid (Abv wS U28) := by show Below _ _ _; rw [hU28]; exact HB27.out.setCell (by exact bR4_20.out) _
        have R4_28 : Hid (RowIs U28 b20 #[.int .i64 (hh : Int)] 3) := by show RowIs _ _ _ _; rw [hU28]; exact R4_27.out.setc0 _
        have R3_28 := Lib.hid (R3_27.out.setcO ⟨b20, 0, none⟩ (.int .i64 (hh : Int)) (E25.out.symm))
        rw [← hU28] at R3_28
        refine' wpHX_askip (w' := U28) rfl (by rw [hU28]; exact exec_storeI rfl ⟨b20, 0, none⟩ hh rfl rfl (R4_27.out.cell 0 _ rfl) (frozen_of_row _ _ _ _ _ R4_27.out)) HB28.out ?_
        simp only [Act.put, List.setIfInBounds_toArray, List.set_cons_zero, List.set_cons_succ]
        clear hU28
        refine wpHX_nil ?_
        clear HBA HSD
        go_wp2
        go_ret
        exact ⟨_, _, rfl, ⟨R4_28.out, R3_28.out⟩, bwStep HWS.out HB28.out⟩
  · simp only [reduceIte, Nat.reduceEqDiff, wpTree, attachW, List.getElem?_cons_zero, List.getElem?_cons_succ]
    obtain ⟨U29, hU29⟩ : ∃ U, U = wS.drew.alloc (.cells #[.int .i64 0] 3) := ⟨_, rfl⟩
    obtain ⟨b29, hb29⟩ : ∃ b, b = wS.drew.heap.size := ⟨_, rfl⟩
    have HU29 : Hid (Below wS.drew.heap.size wS.drew U29) := by show Below _ _ _; rw [hU29]; exact bwA _ _
    have HB29 : Hid (Abv wS U29) := bwStep HD0.out HU29.out
    have N29 : Hid (RowIs U29 b29 #[.int .i64 0] 3 ∧ wS.heap.size ≤ b29) := by show _ ∧ _; rw [hU29, hb29]; exact ⟨RowIs.new _ _ _ _ (by simp), HD0.out.size⟩
    have R3_29 := Lib.hid N29.out.1
    have bR3_29 := Lib.hid N29.out.2
    refine' wpHX_aval (v := .pointer (some ⟨b29, 0, none⟩)) (w' := U29) rfl (by rw [hb29, hU29]; go_simp) HB29.out ?_
    simp only [Act.put, List.setIfInBounds_toArray, List.set_cons_zero, List.set_cons_succ]
    clear hU29 hb29
    refine wpHX_nil ?_
    (try simp only [reduceIte, Nat.reduceEqDiff, wpTree, attachW, List.getElem?_cons_zero, List.getElem?_cons_succ])
    refine wpHX_nil ?_
    intro k hk
    simp only [List.mem_cons, List.not_mem_nil, or_false] at hk
    rcases hk with rfl | rfl
    · simp only [reduceIte, Nat.reduceEqDiff, wpTree, attachW, List.getElem?_cons_zero, List.getElem?_cons_succ]
      refine' wpHX_acall rfl (fun W => ?_) ?_
      rotate_left 2
      · go_simp; exact ⟨rfl, rfl⟩
      refine (HSD.out _).mono ?_
      rintro e U30 ⟨rfl, hb⟩
      have HB30 : Hid (Abv wS U30) := bwStep HB29.out hb
      have R3_30 := Lib.hid (R3_29.out.below hb)
      clear hb
      refine ⟨_, rfl, HB30.out, ?_⟩
      simp only [Act.put, List.setIfInBounds_toArray, List.set_cons_zero, List.set_cons_succ]
      refine wpHX_nil ?_
      (try simp only [reduceIte, Nat.reduceEqDiff, wpTree, attachW, List.getElem?_cons_zero, List.getElem?_cons_succ])
      repeat
        refine' wpHX_val rfl (fun W hW => ?_) ?_
        rotate_left
        · have hcf := CF.out W hW; go_simp; rfl
        simp only [Act.put, List.setIfInBounds_toArray, List.set_cons_zero, List.set_cons_succ]
      refine wpHX_nil ?_
      intro k hk
      simp only [List.mem_cons, List.not_mem_nil, or_false] at hk
      rcases hk with rfl | rfl
      · simp only [reduceIte, Nat.reduceEqDiff, wpTree, attachW, List.getElem?_cons_zero, List.getElem?_cons_succ]
        refine' wpHX_acall rfl (fun W => ?_) ?_
        rotate_left 2
        · go_simp; exact ⟨rfl, rfl⟩
        refine (HBA.out _).mono ?_
        rintro e U31 ⟨rfl, hb⟩
        have HB31 : Hid (Abv wS U31) := bwStep HB30.out hb
        have R3_31 := Lib.hid (R3_30.out.below hb)
        clear hb
        refine ⟨_, rfl, HB31.out, ?_⟩
        simp only [Act.put, List.setIfInBounds_toArray, List.set_cons_zero, List.set_cons_succ]
        refine wpHX_nil ?_
        (try simp only [reduceIte, Nat.reduceEqDiff, wpTree, attachW, List.getElem?_cons_zero, List.getElem?_cons_succ])
        repeat
          refine' wpHX_val rfl (fun W hW => ?_) ?_
          rotate_left
          · have hcf := CF.out W hW; go_simp; rfl
          simp only [Act.put, List.setIfInBounds_toArray, List.set_cons_zero, List.set_cons_succ]
        obtain ⟨U32, hU32⟩ : ∃ U, U = U31.alloc (.cells #[.int .i64 0] 3) := ⟨_, rfl⟩
        obtain ⟨b32, hb32⟩ : ∃ b, b = U31.heap.size := ⟨_, rfl⟩
        have HU32 : Hid (Below U31.heap.size U31 U32) := by show Below _ _ _; rw [hU32]; exact bwA _ _
        have HB32 : Hid (Abv wS U32) := bwStep HB31.out HU32.out
        have N32 : Hid (RowIs U32 b32 #[.int .i64 0] 3 ∧ wS.heap.size ≤ b32) := by show _ ∧ _; rw [hU32, hb32]; exact ⟨RowIs.new _ _ _ _ (by simp), HB31.out.size⟩
        have E32 : Hid (b29 ≠ b32) := by show _ ≠ _; rw [hb32]; exact Nat.ne_of_lt (lt_of_heap R3_31.out)
        have R3_32 := Lib.hid (R3_31.out.below HU32.out)
        have R4_32 := Lib.hid N32.out.1
        have bR4_32 := Lib.hid N32.out.2
        refine' wpHX_aval (v := .pointer (some ⟨b32, 0, none⟩)) (w' := U32) rfl (by rw [hb32, hU32]; go_simp) HB32.out ?_
        simp only [Act.put, List.setIfInBounds_toArray, List.set_cons_zero, List.set_cons_succ]
        clear hU32 hb32
        obtain ⟨U33, hU33⟩ : ∃ U, U = U32.setCell ⟨b29, 0, none⟩ (.int .i64 (t : Int)) := ⟨_, rfl⟩
        have HB33 : Hid (Abv wS U33) := by show Below _ _ _; rw [hU33]; exact HB32.out.setCell (by exact bR3_29.out) _
        have R3_33 : Hid (RowIs U33 b29 #[.int .i64 (t : Int)] 3) := by show RowIs _ _ _ _; rw [hU33]; exact R3_32.out.setc0 _
        have R4_33 := Lib.hid (R4_32.out.setcO ⟨b29, 0, none⟩ (.int .i64 (t : Int)) (E32.out.symm))
        rw [← hU33] at R4_33
        refine' wpHX_askip (w' := U33) rfl (by rw [hU33]; exact exec_storeI rfl ⟨b29, 0, none⟩ t rfl rfl (R3_32.out.cell 0 _ rfl) (frozen_of_row _ _ _ _ _ R3_32.out)) HB33.out ?_
        simp only [Act.put, List.setIfInBounds_toArray, List.set_cons_zero, List.set_cons_succ]
        clear hU33
        obtain ⟨U34, hU34⟩ : ∃ U, U = U33.setCell ⟨b32, 0, none⟩ (.int .i64 (hh : Int)) := ⟨_, rfl⟩
        have HB34 : Hid (Abv wS U34) := by show Below _ _ _; rw [hU34]; exact HB33.out.setCell (by exact bR4_32.out) _
        have R4_34 : Hid (RowIs U34 b32 #[.int .i64 (hh : Int)] 3) := by show RowIs _ _ _ _; rw [hU34]; exact R4_33.out.setc0 _
        have R3_34 := Lib.hid (R3_33.out.setcO ⟨b32, 0, none⟩ (.int .i64 (hh : Int)) (E32.out))
        rw [← hU34] at R3_34
        refine' wpHX_askip (w' := U34) rfl (by rw [hU34]; exact exec_storeI rfl ⟨b32, 0, none⟩ hh rfl rfl (R4_33.out.cell 0 _ rfl) (frozen_of_row _ _ _ _ _ R4_33.out)) HB34.out ?_
        simp only [Act.put, List.setIfInBounds_toArray, List.set_cons_zero, List.set_cons_succ]
        clear hU34
        refine wpHX_nil ?_
        clear HBA HSD
        go_wp2
        go_ret
        exact ⟨_, _, rfl, ⟨R4_34.out, R3_34.out⟩, bwStep HWS.out HB34.out⟩
      · simp only [reduceIte, Nat.reduceEqDiff, wpTree, attachW, List.getElem?_cons_zero, List.getElem?_cons_succ]
        obtain ⟨U35, hU35⟩ : ∃ U, U = U30.alloc (.cells #[.int .i64 0] 3) := ⟨_, rfl⟩
        obtain ⟨b35, hb35⟩ : ∃ b, b = U30.heap.size := ⟨_, rfl⟩
        have HU35 : Hid (Below U30.heap.size U30 U35) := by show Below _ _ _; rw [hU35]; exact bwA _ _
        have HB35 : Hid (Abv wS U35) := bwStep HB30.out HU35.out
        have N35 : Hid (RowIs U35 b35 #[.int .i64 0] 3 ∧ wS.heap.size ≤ b35) := by show _ ∧ _; rw [hU35, hb35]; exact ⟨RowIs.new _ _ _ _ (by simp), HB30.out.size⟩
        have E35 : Hid (b29 ≠ b35) := by show _ ≠ _; rw [hb35]; exact Nat.ne_of_lt (lt_of_heap R3_30.out)
        have R3_35 := Lib.hid (R3_30.out.below HU35.out)
        have R4_35 := Lib.hid N35.out.1
        have bR4_35 := Lib.hid N35.out.2
        refine' wpHX_aval (v := .pointer (some ⟨b35, 0, none⟩)) (w' := U35) rfl (by rw [hb35, hU35]; go_simp) HB35.out ?_
        simp only [Act.put, List.setIfInBounds_toArray, List.set_cons_zero, List.set_cons_succ]
        clear hU35 hb35
        refine wpHX_nil ?_
        (try simp only [reduceIte, Nat.reduceEqDiff, wpTree, attachW, List.getElem?_cons_zero, List.getElem?_cons_succ])
        refine' wpHX_acall rfl (fun W => ?_) ?_
        rotate_left 2
        · go_simp; exact ⟨rfl, rfl⟩
        refine (HBA.out _).mono ?_
        rintro e U36 ⟨rfl, hb⟩
        have HB36 : Hid (Abv wS U36) := bwStep HB35.out hb
        have R3_36 := Lib.hid (R3_35.out.below hb)
        have R4_36 := Lib.hid (R4_35.out.below hb)
        clear hb
        refine ⟨_, rfl, HB36.out, ?_⟩
        simp only [Act.put, List.setIfInBounds_toArray, List.set_cons_zero, List.set_cons_succ]
        repeat
          refine' wpHX_val rfl (fun W hW => ?_) ?_
          rotate_left
          · have hcf := CF.out W hW; go_simp; rfl
          simp only [Act.put, List.setIfInBounds_toArray, List.set_cons_zero, List.set_cons_succ]
        obtain ⟨U37, hU37⟩ : ∃ U, U = U36.setCell ⟨b29, 0, none⟩ (.int .i64 (t : Int)) := ⟨_, rfl⟩
        have HB37 : Hid (Abv wS U37) := by show Below _ _ _; rw [hU37]; exact HB36.out.setCell (by exact bR3_29.out) _
        have R3_37 : Hid (RowIs U37 b29 #[.int .i64 (t : Int)] 3) := by show RowIs _ _ _ _; rw [hU37]; exact R3_36.out.setc0 _
        have R4_37 := Lib.hid (R4_36.out.setcO ⟨b29, 0, none⟩ (.int .i64 (t : Int)) (E35.out.symm))
        rw [← hU37] at R4_37
        refine' wpHX_askip (w' := U37) rfl (by rw [hU37]; exact exec_storeI rfl ⟨b29, 0, none⟩ t rfl rfl (R3_36.out.cell 0 _ rfl) (frozen_of_row _ _ _ _ _ R3_36.out)) HB37.out ?_
        simp only [Act.put, List.setIfInBounds_toArray, List.set_cons_zero, List.set_cons_succ]
        clear hU37
        obtain ⟨U38, hU38⟩ : ∃ U, U = U37.setCell ⟨b35, 0, none⟩ (.int .i64 (hh : Int)) := ⟨_, rfl⟩
        have HB38 : Hid (Abv wS U38) := by show Below _ _ _; rw [hU38]; exact HB37.out.setCell (by exact bR4_35.out) _
        have R4_38 : Hid (RowIs U38 b35 #[.int .i64 (hh : Int)] 3) := by show RowIs _ _ _ _; rw [hU38]; exact R4_37.out.setc0 _
        have R3_38 := Lib.hid (R3_37.out.setcO ⟨b35, 0, none⟩ (.int .i64 (hh : Int)) (E35.out))
        rw [← hU38] at R3_38
        refine' wpHX_askip (w' := U38) rfl (by rw [hU38]; exact exec_storeI rfl ⟨b35, 0, none⟩ hh rfl rfl (R4_37.out.cell 0 _ rfl) (frozen_of_row _ _ _ _ _ R4_37.out)) HB38.out ?_
        simp only [Act.put, List.setIfInBounds_toArray, List.set_cons_zero, List.set_cons_succ]
        clear hU38
        refine wpHX_nil ?_
        clear HBA HSD
        go_wp2
        go_ret
        exact ⟨_, _, rfl, ⟨R4_38.out, R3_38.out⟩, bwStep HWS.out HB38.out⟩
    · simp only [reduceIte, Nat.reduceEqDiff, wpTree, attachW, List.getElem?_cons_zero, List.getElem?_cons_succ]
      obtain ⟨U39, hU39⟩ : ∃ U, U = U29.alloc (.cells #[.int .i64 0] 3) := ⟨_, rfl⟩
      obtain ⟨b39, hb39⟩ : ∃ b, b = U29.heap.size := ⟨_, rfl⟩
      have HU39 : Hid (Below U29.heap.size U29 U39) := by show Below _ _ _; rw [hU39]; exact bwA _ _
      have HB39 : Hid (Abv wS U39) := bwStep HB29.out HU39.out
      have N39 : Hid (RowIs U39 b39 #[.int .i64 0] 3 ∧ wS.heap.size ≤ b39) := by show _ ∧ _; rw [hU39, hb39]; exact ⟨RowIs.new _ _ _ _ (by simp), HB29.out.size⟩
      have E39 : Hid (b29 ≠ b39) := by show _ ≠ _; rw [hb39]; exact Nat.ne_of_lt (lt_of_heap R3_29.out)
      have R3_39 := Lib.hid (R3_29.out.below HU39.out)
      have R4_39 := Lib.hid N39.out.1
      have bR4_39 := Lib.hid N39.out.2
      refine' wpHX_aval (v := .pointer (some ⟨b39, 0, none⟩)) (w' := U39) rfl (by rw [hb39, hU39]; go_simp) HB39.out ?_
      simp only [Act.put, List.setIfInBounds_toArray, List.set_cons_zero, List.set_cons_succ]
      clear hU39 hb39
      refine wpHX_nil ?_
      (try simp only [reduceIte, Nat.reduceEqDiff, wpTree, attachW, List.getElem?_cons_zero, List.getElem?_cons_succ])
      refine' wpHX_acall rfl (fun W => ?_) ?_
      rotate_left 2
      · go_simp; exact ⟨rfl, rfl⟩
      refine (HSD.out _).mono ?_
      rintro e U40 ⟨rfl, hb⟩
      have HB40 : Hid (Abv wS U40) := bwStep HB39.out hb
      have R3_40 := Lib.hid (R3_39.out.below hb)
      have R4_40 := Lib.hid (R4_39.out.below hb)
      clear hb
      refine ⟨_, rfl, HB40.out, ?_⟩
      simp only [Act.put, List.setIfInBounds_toArray, List.set_cons_zero, List.set_cons_succ]
      repeat
        refine' wpHX_val rfl (fun W hW => ?_) ?_
        rotate_left
        · have hcf := CF.out W hW; go_simp; rfl
        simp only [Act.put, List.setIfInBounds_toArray, List.set_cons_zero, List.set_cons_succ]
      refine' wpHX_acall rfl (fun W => ?_) ?_
      rotate_left 2
      · go_simp; exact ⟨rfl, rfl⟩
      refine (HBA.out _).mono ?_
      rintro e U41 ⟨rfl, hb⟩
      have HB41 : Hid (Abv wS U41) := bwStep HB40.out hb
      have R3_41 := Lib.hid (R3_40.out.below hb)
      have R4_41 := Lib.hid (R4_40.out.below hb)
      clear hb
      refine ⟨_, rfl, HB41.out, ?_⟩
      simp only [Act.put, List.setIfInBounds_toArray, List.set_cons_zero, List.set_cons_succ]
      repeat
        refine' wpHX_val rfl (fun W hW => ?_) ?_
        rotate_left
        · have hcf := CF.out W hW; go_simp; rfl
        simp only [Act.put, List.setIfInBounds_toArray, List.set_cons_zero, List.set_cons_succ]
      obtain ⟨U42, hU42⟩ : ∃ U, U = U41.setCell ⟨b29, 0, none⟩ (.int .i64 (t : Int)) := ⟨_, rfl⟩
      have HB42 : Hid (Abv wS U42) := by show Below _ _ _; rw [hU42]; exact HB41.out.setCell (by exact bR3_29.out) _
      have R3_42 : Hid (RowIs U42 b29 #[.int .i64 (t : Int)] 3) := by show RowIs _ _ _ _; rw [hU42]; exact R3_41.out.setc0 _
      have R4_42 := Lib.hid (R4_41.out.setcO ⟨b29, 0, none⟩ (.int .i64 (t : Int)) (E39.out.symm))
      rw [← hU42] at R4_42
      refine' wpHX_askip (w' := U42) rfl (by rw [hU42]; exact exec_storeI rfl ⟨b29, 0, none⟩ t rfl rfl (R3_41.out.cell 0 _ rfl) (frozen_of_row _ _ _ _ _ R3_41.out)) HB42.out ?_
      simp only [Act.put, List.setIfInBounds_toArray, List.set_cons_zero, List.set_cons_succ]
      clear hU42
      obtain ⟨U43, hU43⟩ : ∃ U, U = U42.setCell ⟨b39, 0, none⟩ (.int .i64 (hh : Int)) := ⟨_, rfl⟩
      have HB43 : Hid (Abv wS U43) := by show Below _ _ _; rw [hU43]; exact HB42.out.setCell (by exact bR4_39.out) _
      have R4_43 : Hid (RowIs U43 b39 #[.int .i64 (hh : Int)] 3) := by show RowIs _ _ _ _; rw [hU43]; exact R4_42.out.setc0 _
      have R3_43 := Lib.hid (R3_42.out.setcO ⟨b39, 0, none⟩ (.int .i64 (hh : Int)) (E39.out))
      rw [← hU43] at R3_43
      refine' wpHX_askip (w' := U43) rfl (by rw [hU43]; exact exec_storeI rfl ⟨b39, 0, none⟩ hh rfl rfl (R4_42.out.cell 0 _ rfl) (frozen_of_row _ _ _ _ _ R4_42.out)) HB43.out ?_
      simp only [Act.put, List.setIfInBounds_toArray, List.set_cons_zero, List.set_cons_succ]
      clear hU43
      refine wpHX_nil ?_
      clear HBA HSD
      go_wp2
      go_ret
      exact ⟨_, _, rfl, ⟨R4_43.out, R3_43.out⟩, bwStep HWS.out HB43.out⟩
  · simp only [reduceIte, Nat.reduceEqDiff, wpTree, attachW, List.getElem?_cons_zero, List.getElem?_cons_succ]
    obtain ⟨U44, hU44⟩ : ∃ U, U = wS.drew.alloc (.cells #[.int .i64 0] 3) := ⟨_, rfl⟩
    obtain ⟨b44, hb44⟩ : ∃ b, b = wS.drew.heap.size := ⟨_, rfl⟩
    have HU44 : Hid (Below wS.drew.heap.size wS.drew U44) := by show Below _ _ _; rw [hU44]; exact bwA _ _
    have HB44 : Hid (Abv wS U44) := bwStep HD0.out HU44.out
    have N44 : Hid (RowIs U44 b44 #[.int .i64 0] 3 ∧ wS.heap.size ≤ b44) := by show _ ∧ _; rw [hU44, hb44]; exact ⟨RowIs.new _ _ _ _ (by simp), HD0.out.size⟩
    have R4_44 := Lib.hid N44.out.1
    have bR4_44 := Lib.hid N44.out.2
    refine' wpHX_aval (v := .pointer (some ⟨b44, 0, none⟩)) (w' := U44) rfl (by rw [hb44, hU44]; go_simp) HB44.out ?_
    simp only [Act.put, List.setIfInBounds_toArray, List.set_cons_zero, List.set_cons_succ]
    clear hU44 hb44
    refine wpHX_nil ?_
    (try simp only [reduceIte, Nat.reduceEqDiff, wpTree, attachW, List.getElem?_cons_zero, List.getElem?_cons_succ])
    refine wpHX_nil ?_
    intro k hk
    simp only [List.mem_cons, List.not_mem_nil, or_false] at hk
    rcases hk with rfl | rfl
    · simp only [reduceIte, Nat.reduceEqDiff, wpTree, attachW, List.getElem?_cons_zero, List.getElem?_cons_succ]
      refine' wpHX_acall rfl (fun W => ?_) ?_
      rotate_left 2
      · go_simp; exact ⟨rfl, rfl⟩
      refine (HSD.out _).mono ?_
      rintro e U45 ⟨rfl, hb⟩
      have HB45 : Hid (Abv wS U45) := bwStep HB44.out hb
      have R4_45 := Lib.hid (R4_44.out.below hb)
      clear hb
      refine ⟨_, rfl, HB45.out, ?_⟩
      simp only [Act.put, List.setIfInBounds_toArray, List.set_cons_zero, List.set_cons_succ]
      refine wpHX_nil ?_
      (try simp only [reduceIte, Nat.reduceEqDiff, wpTree, attachW, List.getElem?_cons_zero, List.getElem?_cons_succ])
      repeat
        refine' wpHX_val rfl (fun W hW => ?_) ?_
        rotate_left
        · have hcf := CF.out W hW; go_simp; rfl
        simp only [Act.put, List.setIfInBounds_toArray, List.set_cons_zero, List.set_cons_succ]
      refine wpHX_nil ?_
      intro k hk
      simp only [List.mem_cons, List.not_mem_nil, or_false] at hk
      rcases hk with rfl | rfl
      · simp only [reduceIte, Nat.reduceEqDiff, wpTree, attachW, List.getElem?_cons_zero, List.getElem?_cons_succ]
        refine' wpHX_acall rfl (fun W => ?_) ?_
        rotate_left 2
        · go_simp; exact ⟨rfl, rfl⟩
        refine (HBA.out _).mono ?_
        rintro e U46 ⟨rfl, hb⟩
        have HB46 : Hid (Abv wS U46) := bwStep HB45.out hb
        have R4_46 := Lib.hid (R4_45.out.below hb)
        clear hb
        refine ⟨_, rfl, HB46.out, ?_⟩
        simp only [Act.put, List.setIfInBounds_toArray, List.set_cons_zero, List.set_cons_succ]
        refine wpHX_nil ?_
        (try simp only [reduceIte, Nat.reduceEqDiff, wpTree, attachW, List.getElem?_cons_zero, List.getElem?_cons_succ])
        repeat
          refine' wpHX_val rfl (fun W hW => ?_) ?_
          rotate_left
          · have hcf := CF.out W hW; go_simp; rfl
          simp only [Act.put, List.setIfInBounds_toArray, List.set_cons_zero, List.set_cons_succ]
        obtain ⟨U47, hU47⟩ : ∃ U, U = U46.alloc (.cells #[.int .i64 0] 3) := ⟨_, rfl⟩
        obtain ⟨b47, hb47⟩ : ∃ b, b = U46.heap.size := ⟨_, rfl⟩
        have HU47 : Hid (Below U46.heap.size U46 U47) := by show Below _ _ _; rw [hU47]; exact bwA _ _
        have HB47 : Hid (Abv wS U47) := bwStep HB46.out HU47.out
        have N47 : Hid (RowIs U47 b47 #[.int .i64 0] 3 ∧ wS.heap.size ≤ b47) := by show _ ∧ _; rw [hU47, hb47]; exact ⟨RowIs.new _ _ _ _ (by simp), HB46.out.size⟩
        have E47 : Hid (b44 ≠ b47) := by show _ ≠ _; rw [hb47]; exact Nat.ne_of_lt (lt_of_heap R4_46.out)
        have R4_47 := Lib.hid (R4_46.out.below HU47.out)
        have R3_47 := Lib.hid N47.out.1
        have bR3_47 := Lib.hid N47.out.2
        refine' wpHX_aval (v := .pointer (some ⟨b47, 0, none⟩)) (w' := U47) rfl (by rw [hb47, hU47]; go_simp) HB47.out ?_
        simp only [Act.put, List.setIfInBounds_toArray, List.set_cons_zero, List.set_cons_succ]
        clear hU47 hb47
        obtain ⟨U48, hU48⟩ : ∃ U, U = U47.setCell ⟨b47, 0, none⟩ (.int .i64 (t : Int)) := ⟨_, rfl⟩
        have HB48 : Hid (Abv wS U48) := by show Below _ _ _; rw [hU48]; exact HB47.out.setCell (by exact bR3_47.out) _
        have R3_48 : Hid (RowIs U48 b47 #[.int .i64 (t : Int)] 3) := by show RowIs _ _ _ _; rw [hU48]; exact R3_47.out.setc0 _
        have R4_48 := Lib.hid (R4_47.out.setcO ⟨b47, 0, none⟩ (.int .i64 (t : Int)) (E47.out.symm.symm))
        rw [← hU48] at R4_48
        refine' wpHX_askip (w' := U48) rfl (by rw [hU48]; exact exec_storeI rfl ⟨b47, 0, none⟩ t rfl rfl (R3_47.out.cell 0 _ rfl) (frozen_of_row _ _ _ _ _ R3_47.out)) HB48.out ?_
        simp only [Act.put, List.setIfInBounds_toArray, List.set_cons_zero, List.set_cons_succ]
        clear hU48
        obtain ⟨U49, hU49⟩ : ∃ U, U = U48.setCell ⟨b44, 0, none⟩ (.int .i64 (hh : Int)) := ⟨_, rfl⟩
        have HB49 : Hid (Abv wS U49) := by show Below _ _ _; rw [hU49]; exact HB48.out.setCell (by exact bR4_44.out) _
        have R4_49 : Hid (RowIs U49 b44 #[.int .i64 (hh : Int)] 3) := by show RowIs _ _ _ _; rw [hU49]; exact R4_48.out.setc0 _
        have R3_49 := Lib.hid (R3_48.out.setcO ⟨b44, 0, none⟩ (.int .i64 (hh : Int)) (E47.out.symm))
        rw [← hU49] at R3_49
        refine' wpHX_askip (w' := U49) rfl (by rw [hU49]; exact exec_storeI rfl ⟨b44, 0, none⟩ hh rfl rfl (R4_48.out.cell 0 _ rfl) (frozen_of_row _ _ _ _ _ R4_48.out)) HB49.out ?_
        simp only [Act.put, List.setIfInBounds_toArray, List.set_cons_zero, List.set_cons_succ]
        clear hU49
        refine wpHX_nil ?_
        clear HBA HSD
        go_wp2
        go_ret
        exact ⟨_, _, rfl, ⟨R4_49.out, R3_49.out⟩, bwStep HWS.out HB49.out⟩
      · simp only [reduceIte, Nat.reduceEqDiff, wpTree, attachW, List.getElem?_cons_zero, List.getElem?_cons_succ]
        obtain ⟨U50, hU50⟩ : ∃ U, U = U45.alloc (.cells #[.int .i64 0] 3) := ⟨_, rfl⟩
        obtain ⟨b50, hb50⟩ : ∃ b, b = U45.heap.size := ⟨_, rfl⟩
        have HU50 : Hid (Below U45.heap.size U45 U50) := by show Below _ _ _; rw [hU50]; exact bwA _ _
        have HB50 : Hid (Abv wS U50) := bwStep HB45.out HU50.out
        have N50 : Hid (RowIs U50 b50 #[.int .i64 0] 3 ∧ wS.heap.size ≤ b50) := by show _ ∧ _; rw [hU50, hb50]; exact ⟨RowIs.new _ _ _ _ (by simp), HB45.out.size⟩
        have E50 : Hid (b44 ≠ b50) := by show _ ≠ _; rw [hb50]; exact Nat.ne_of_lt (lt_of_heap R4_45.out)
        have R4_50 := Lib.hid (R4_45.out.below HU50.out)
        have R3_50 := Lib.hid N50.out.1
        have bR3_50 := Lib.hid N50.out.2
        refine' wpHX_aval (v := .pointer (some ⟨b50, 0, none⟩)) (w' := U50) rfl (by rw [hb50, hU50]; go_simp) HB50.out ?_
        simp only [Act.put, List.setIfInBounds_toArray, List.set_cons_zero, List.set_cons_succ]
        clear hU50 hb50
        refine wpHX_nil ?_
        (try simp only [reduceIte, Nat.reduceEqDiff, wpTree, attachW, List.getElem?_cons_zero, List.getElem?_cons_succ])
        refine' wpHX_acall rfl (fun W => ?_) ?_
        rotate_left 2
        · go_simp; exact ⟨rfl, rfl⟩
        refine (HBA.out _).mono ?_
        rintro e U51 ⟨rfl, hb⟩
        have HB51 : Hid (Abv wS U51) := bwStep HB50.out hb
        have R3_51 := Lib.hid (R3_50.out.below hb)
        have R4_51 := Lib.hid (R4_50.out.below hb)
        clear hb
        refine ⟨_, rfl, HB51.out, ?_⟩
        simp only [Act.put, List.setIfInBounds_toArray, List.set_cons_zero, List.set_cons_succ]
        repeat
          refine' wpHX_val rfl (fun W hW => ?_) ?_
          rotate_left
          · have hcf := CF.out W hW; go_simp; rfl
          simp only [Act.put, List.setIfInBounds_toArray, List.set_cons_zero, List.set_cons_succ]
        obtain ⟨U52, hU52⟩ : ∃ U, U = U51.setCell ⟨b50, 0, none⟩ (.int .i64 (t : Int)) := ⟨_, rfl⟩
        have HB52 : Hid (Abv wS U52) := by show Below _ _ _; rw [hU52]; exact HB51.out.setCell (by exact bR3_50.out) _
        have R3_52 : Hid (RowIs U52 b50 #[.int .i64 (t : Int)] 3) := by show RowIs _ _ _ _; rw [hU52]; exact R3_51.out.setc0 _
        have R4_52 := Lib.hid (R4_51.out.setcO ⟨b50, 0, none⟩ (.int .i64 (t : Int)) (E50.out.symm.symm))
        rw [← hU52] at R4_52
        refine' wpHX_askip (w' := U52) rfl (by rw [hU52]; exact exec_storeI rfl ⟨b50, 0, none⟩ t rfl rfl (R3_51.out.cell 0 _ rfl) (frozen_of_row _ _ _ _ _ R3_51.out)) HB52.out ?_
        simp only [Act.put, List.setIfInBounds_toArray, List.set_cons_zero, List.set_cons_succ]
        clear hU52
        obtain ⟨U53, hU53⟩ : ∃ U, U = U52.setCell ⟨b44, 0, none⟩ (.int .i64 (hh : Int)) := ⟨_, rfl⟩
        have HB53 : Hid (Abv wS U53) := by show Below _ _ _; rw [hU53]; exact HB52.out.setCell (by exact bR4_44.out) _
        have R4_53 : Hid (RowIs U53 b44 #[.int .i64 (hh : Int)] 3) := by show RowIs _ _ _ _; rw [hU53]; exact R4_52.out.setc0 _
        have R3_53 := Lib.hid (R3_52.out.setcO ⟨b44, 0, none⟩ (.int .i64 (hh : Int)) (E50.out.symm))
        rw [← hU53] at R3_53
        refine' wpHX_askip (w' := U53) rfl (by rw [hU53]; exact exec_storeI rfl ⟨b44, 0, none⟩ hh rfl rfl (R4_52.out.cell 0 _ rfl) (frozen_of_row _ _ _ _ _ R4_52.out)) HB53.out ?_
        simp only [Act.put, List.setIfInBounds_toArray, List.set_cons_zero, List.set_cons_succ]
        clear hU53
        refine wpHX_nil ?_
        clear HBA HSD
        go_wp2
        go_ret
        exact ⟨_, _, rfl, ⟨R4_53.out, R3_53.out⟩, bwStep HWS.out HB53.out⟩
    · simp only [reduceIte, Nat.reduceEqDiff, wpTree, attachW, List.getElem?_cons_zero, List.getElem?_cons_succ]
      obtain ⟨U54, hU54⟩ : ∃ U, U = U44.alloc (.cells #[.int .i64 0] 3) := ⟨_, rfl⟩
      obtain ⟨b54, hb54⟩ : ∃ b, b = U44.heap.size := ⟨_, rfl⟩
      have HU54 : Hid (Below U44.heap.size U44 U54) := by show Below _ _ _; rw [hU54]; exact bwA _ _
      have HB54 : Hid (Abv wS U54) := bwStep HB44.out HU54.out
      have N54 : Hid (RowIs U54 b54 #[.int .i64 0] 3 ∧ wS.heap.size ≤ b54) := by show _ ∧ _; rw [hU54, hb54]; exact ⟨RowIs.new _ _ _ _ (by simp), HB44.out.size⟩
      have E54 : Hid (b44 ≠ b54) := by show _ ≠ _; rw [hb54]; exact Nat.ne_of_lt (lt_of_heap R4_44.out)
      have R4_54 := Lib.hid (R4_44.out.below HU54.out)
      have R3_54 := Lib.hid N54.out.1
      have bR3_54 := Lib.hid N54.out.2
      refine' wpHX_aval (v := .pointer (some ⟨b54, 0, none⟩)) (w' := U54) rfl (by rw [hb54, hU54]; go_simp) HB54.out ?_
      simp only [Act.put, List.setIfInBounds_toArray, List.set_cons_zero, List.set_cons_succ]
      clear hU54 hb54
      refine wpHX_nil ?_
      (try simp only [reduceIte, Nat.reduceEqDiff, wpTree, attachW, List.getElem?_cons_zero, List.getElem?_cons_succ])
      refine' wpHX_acall rfl (fun W => ?_) ?_
      rotate_left 2
      · go_simp; exact ⟨rfl, rfl⟩
      refine (HSD.out _).mono ?_
      rintro e U55 ⟨rfl, hb⟩
      have HB55 : Hid (Abv wS U55) := bwStep HB54.out hb
      have R3_55 := Lib.hid (R3_54.out.below hb)
      have R4_55 := Lib.hid (R4_54.out.below hb)
      clear hb
      refine ⟨_, rfl, HB55.out, ?_⟩
      simp only [Act.put, List.setIfInBounds_toArray, List.set_cons_zero, List.set_cons_succ]
      repeat
        refine' wpHX_val rfl (fun W hW => ?_) ?_
        rotate_left
        · have hcf := CF.out W hW; go_simp; rfl
        simp only [Act.put, List.setIfInBounds_toArray, List.set_cons_zero, List.set_cons_succ]
      refine' wpHX_acall rfl (fun W => ?_) ?_
      rotate_left 2
      · go_simp; exact ⟨rfl, rfl⟩
      refine (HBA.out _).mono ?_
      rintro e U56 ⟨rfl, hb⟩
      have HB56 : Hid (Abv wS U56) := bwStep HB55.out hb
      have R3_56 := Lib.hid (R3_55.out.below hb)
      have R4_56 := Lib.hid (R4_55.out.below hb)
      clear hb
      refine ⟨_, rfl, HB56.out, ?_⟩
      simp only [Act.put, List.setIfInBounds_toArray, List.set_cons_zero, List.set_cons_succ]
      repeat
        refine' wpHX_val rfl (fun W hW => ?_) ?_
        rotate_left
        · have hcf := CF.out W hW; go_simp; rfl
        simp only [Act.put, List.setIfInBounds_toArray, List.set_cons_zero, List.set_cons_succ]
      obtain ⟨U57, hU57⟩ : ∃ U, U = U56.setCell ⟨b54, 0, none⟩ (.int .i64 (t : Int)) := ⟨_, rfl⟩
      have HB57 : Hid (Abv wS U57) := by show Below _ _ _; rw [hU57]; exact HB56.out.setCell (by exact bR3_54.out) _
      have R3_57 : Hid (RowIs U57 b54 #[.int .i64 (t : Int)] 3) := by show RowIs _ _ _ _; rw [hU57]; exact R3_56.out.setc0 _
      have R4_57 := Lib.hid (R4_56.out.setcO ⟨b54, 0, none⟩ (.int .i64 (t : Int)) (E54.out.symm.symm))
      rw [← hU57] at R4_57
      refine' wpHX_askip (w' := U57) rfl (by rw [hU57]; exact exec_storeI rfl ⟨b54, 0, none⟩ t rfl rfl (R3_56.out.cell 0 _ rfl) (frozen_of_row _ _ _ _ _ R3_56.out)) HB57.out ?_
      simp only [Act.put, List.setIfInBounds_toArray, List.set_cons_zero, List.set_cons_succ]
      clear hU57
      obtain ⟨U58, hU58⟩ : ∃ U, U = U57.setCell ⟨b44, 0, none⟩ (.int .i64 (hh : Int)) := ⟨_, rfl⟩
      have HB58 : Hid (Abv wS U58) := by show Below _ _ _; rw [hU58]; exact HB57.out.setCell (by exact bR4_44.out) _
      have R4_58 : Hid (RowIs U58 b44 #[.int .i64 (hh : Int)] 3) := by show RowIs _ _ _ _; rw [hU58]; exact R4_57.out.setc0 _
      have R3_58 := Lib.hid (R3_57.out.setcO ⟨b44, 0, none⟩ (.int .i64 (hh : Int)) (E54.out.symm))
      rw [← hU58] at R3_58
      refine' wpHX_askip (w' := U58) rfl (by rw [hU58]; exact exec_storeI rfl ⟨b44, 0, none⟩ hh rfl rfl (R4_57.out.cell 0 _ rfl) (frozen_of_row _ _ _ _ _ R4_57.out)) HB58.out ?_
      simp only [Act.put, List.setIfInBounds_toArray, List.set_cons_zero, List.set_cons_succ]
      clear hU58
      refine wpHX_nil ?_
      clear HBA HSD
      go_wp2
      go_ret
      exact ⟨_, _, rfl, ⟨R4_58.out, R3_58.out⟩, bwStep HWS.out HB58.out⟩
theorem positions_comp (L : Nat) (w : World) : Calls Tryz.prog 92 #[symv L true] w fun e w' => e = .returned (.func (Fn.func 137) #[] #[]) ∧ Below w.heap.size w w' := by
  have CF := sym_cells w L true
  obtain ⟨f0, f1⟩ := CF.out _ (Below.refl _ _)
  go_enter Tryz.func92, Tryz.ntmps92
  go_wp2
  go_ret
  exact ⟨rfl, bwA _ _⟩
theorem positions_any (L : Nat) (c : Bool) (w : World) (hL : L ≤ 32) : Calls Tryz.prog 92 #[symv L c] w fun e w' => ∃ hb cb, e = .returned (posVal c hb cb) ∧ (c = false → HC L w' hb cb) ∧ Below w.heap.size w w' := by
  cases c with
  | true =>
    refine (positions_comp L w).mono ?_
    rintro e w' ⟨rfl, hb⟩
    exact ⟨0, 0, rfl, (fun h => by cases h), hb⟩
  | false =>
    refine (positions_full L w hL).mono ?_
    rintro e w' ⟨hb, cb, rfl, hc, hbw⟩
    exact ⟨hb, cb, rfl, fun _ => hc, hbw⟩
end Go.Proofs.YtmnlkganmgcpbaaGreatDoor
