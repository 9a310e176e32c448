import Derived.Test.YtmnlkganmgcpbaaGreatDoorQa26
import Derived.Test.YtmnlkganmgcpbaaGreatDoorQa27
namespace Go.Proofs.YtmnlkganmgcpbaaGreatDoor
open Go.RowKit
set_option linter.unusedVariables false
set_option linter.unusedSectionVars false
set_option linter.unusedSimpArgs false
set_option maxHeartbeats 1000000 in
theorem posn1_any (i : Nat) (w : World) : Calls Tryz.prog 137 #[.int .i64 i] w fun e w' => e = .returned (.int .i64 (i : Int)) ∧ w' = w := by
  go_enter Tryz.func137, Tryz.ntmps137
  go_wp2
  go_ret; exact ⟨rfl, rfl⟩
def HC (L : Nat) (W : World) (hb cb : Nat) : Prop := RowIs W hb #[.int .i64 ((baseN L false / 2 : Nat) : Int)] 3 ∧ RowIs W cb #[.int .i64 ((cenN L false : Nat) : Int)] 3
set_option maxHeartbeats 1000000 in
theorem posn2_any (L i hb cb : Nat) (w : World) (h : L ≤ 32) (hi : i < baseN L false) (hc : HC L w hb cb) : Calls Tryz.prog 138 #[.int .i64 i, .pointer (some ⟨hb, 0, none⟩), .pointer (some ⟨cb, 0, none⟩)] w fun e w' => e = .returned (.int .i64 ((posN L false i : Nat) : Int)) ∧ w' = w := by
  have HBL := Lib.hid (base_le (c := false) h)
  have HSL := Lib.hid (side_le (c := false) h)
  have f0 : w.cell? ⟨hb, 0, none⟩ = some (.int .i64 ((baseN L false / 2 : Nat) : Int)) := hc.1.cell 0 _ rfl
  have f1 : w.cell? ⟨cb, 0, none⟩ = some (.int .i64 ((cenN L false : Nat) : Int)) := hc.2.cell 0 _ rfl
  have HCE : Hid (((cenN L false : Nat) : Int) = ((sideN L false : Int) - 1) / 2) := by
    have := side_le (c := false) h
    show _ = _
    unfold cenN; omega
  clear hc
  by_cases hlt : i < baseN L false / 2
  · have HP := Lib.hid (posN_lo h hlt)
    rw [← HCE.out] at HP
    have e0 : (baseN L false : Int) / 2 = ((baseN L false / 2 : Nat) : Int) := by omega
    rw [e0] at HP
    clear e0
    have hB : baseN L false / 2 ≤ 100 := by have := HBL.out; omega
    have hC : cenN L false ≤ 100 := by have := HSL.out; unfold cenN; omega
    generalize posN L false i = p at *
    generalize baseN L false / 2 = hh at *
    generalize cenN L false = t at *
    have hlt2 : (i : Int) < (hh : Int) := by omega
    obtain ⟨j, hj⟩ : ∃ j, j = hh - 1 - i := ⟨_, rfl⟩
    have e2 : (hh : Int) - 1 - (i : Int) = (j : Int) := by omega
    obtain ⟨q, hq⟩ : ∃ q, q = j / 15 := ⟨_, rfl⟩
    have e3 : (j : Int) / 15 = (q : Int) := by omega
    have HP2 : Hid ((t : Int) - 1 - (j : Int) - (q : Int) = (p : Int)) := by show _ = _; rw [HP.out, e2, e3]
    have hj9 : j ≤ 200 := by omega
    have hq9 : q ≤ 200 := by omega
    clear hj hq hlt hi
    go_enter Tryz.func138, Tryz.ntmps138
    go_wp2
    go_ret; exact ⟨ret_int HP2.out, rfl⟩
  · have HP := Lib.hid (posN_hi h hlt)
    rw [← HCE.out] at HP
    have e0 : (baseN L false : Int) / 2 = ((baseN L false / 2 : Nat) : Int) := by omega
    rw [e0] at HP
    clear e0
    have hB : baseN L false / 2 ≤ 100 := by have := HBL.out; omega
    have hC : cenN L false ≤ 100 := by have := HSL.out; unfold cenN; omega
    have hi9 : i ≤ 200 := by have := HBL.out; omega
    generalize posN L false i = p at *
    generalize baseN L false / 2 = hh at *
    generalize cenN L false = t at *
    have hlt2 : ¬ ((i : Int) < (hh : Int)) := by omega
    obtain ⟨j, hj⟩ : ∃ j, j = i - hh := ⟨_, rfl⟩
    have e2 : (i : Int) - (hh : Int) = (j : Int) := by omega
    obtain ⟨q, hq⟩ : ∃ q, q = j / 15 := ⟨_, rfl⟩
    have e3 : (j : Int) / 15 = (q : Int) := by omega
    have HP2 : Hid ((t : Int) + 1 + (j : Int) + (q : Int) = (p : Int)) := by show _ = _; rw [HP.out, e2, e3]
    have hj9 : j ≤ 200 := by omega
    have hq9 : q ≤ 200 := by omega
    clear hj hq hlt hi
    go_enter Tryz.func138, Tryz.ntmps138
    go_wp2
    go_ret; exact ⟨ret_int HP2.out, rfl⟩
def posVal (c : Bool) (hb cb : Nat) : Value := if c = true then .func (Fn.func 137) #[] #[] else .func (Fn.func 138) #[] #[.pointer (some ⟨hb, 0, none⟩), .pointer (some ⟨cb, 0, none⟩)]
structure PEnv (L : Nat) (c : Bool) (pb lb hb cb : Nat) (W : World) : Prop where
  P : RowIs W pb #[posVal c hb cb] 77
  Q : RowIs W lb #[.int .i64 ((baseN L c - 1 : Nat) : Int)] 3
  H : c = false → HC L W hb cb
def notPts : Obj → Bool
  | .cells _ t _ => !(t == 47) && !(t == 40)
  | _ => true
def KeepP (w w' : World) : Prop := ∀ (k : Nat) (o : Obj), w.heap[k]? = some o → notPts o = true → w'.heap[k]? = some o
theorem KeepP.refl (w : World) : KeepP w w := fun _ _ h _ => h
theorem KeepP.trans {a b c : World} (h : KeepP a b) (h2 : KeepP b c) : KeepP a c := fun k o h3 h4 => h2 k o (h k o h3 h4) h4
theorem KeepP.below {w W : World} (h : Below w.heap.size w W) : KeepP w W := fun k o h1 _ => (h.block k (lt_of_heap h1)).trans h1
theorem RowIs.keepP {w w' : World} {g : Nat} {cur : Array Value} {t : TypeId} (h : RowIs w g cur t) (hk : KeepP w w') (ht : notPts (.cells cur t (0, 0)) = true) : RowIs w' g cur t := hk g _ h ht
theorem PEnv.keep {L : Nat} {c : Bool} {pb lb hb cb : Nat} {w W : World} (h : PEnv L c pb lb hb cb w) (hk : KeepP w W) : PEnv L c pb lb hb cb W :=
  ⟨h.P.keepP hk rfl, h.Q.keepP hk rfl, fun e => ⟨(h.H e).1.keepP hk rfl, (h.H e).2.keepP hk rfl⟩⟩
set_option maxRecDepth 100000 in
set_option maxHeartbeats 2000000 in
theorem at0_any (L : Nat) (c : Bool) (pb lb ib hb cb i j k : Nat) (w : World) (hL : L ≤ 32) (hi : i < L) (hj : j < rN L c i) (hk : k < 2) (he : PEnv L c pb lb hb cb w) (hI : RowIs w ib #[.int .i64 i] 3) :
    Calls Tryz.prog 94 #[.int .i64 j, .int .i64 k, .pointer (some ⟨pb, 0, none⟩), .pointer (some ⟨ib, 0, none⟩)] w fun e w' => e = .returned (.agg #[.int .i64 (((ptN L c i 0 j k).1 : Nat) : Int), .int .i64 (((ptN L c i 0 j k).2 : Nat) : Int)]) ∧ Below w.heap.size w w' := by
  obtain ⟨hb1, hb2⟩ := bx_lt (s := 0) hL hi hj hk
  have hB9 := (base_le (c := c) hL).2
  obtain ⟨ac, hac⟩ : ∃ ac, ac = 2 * i + k := ⟨_, rfl⟩
  obtain ⟨al, hal⟩ : ∃ al, al = 2 * i + j := ⟨_, rfl⟩
  obtain ⟨la, hla⟩ : ∃ la, la = baseN L c - 1 := ⟨_, rfl⟩
  obtain ⟨lc, hlc⟩ : ∃ lc, lc = la - ac := ⟨_, rfl⟩
  obtain ⟨ll, hll⟩ : ∃ ll, ll = la - al := ⟨_, rfl⟩
  obtain ⟨i2, hi2⟩ : ∃ i2, i2 = 2 * i := ⟨_, rfl⟩
  obtain ⟨li, hli⟩ : ∃ li, li = la - i2 := ⟨_, rfl⟩
  have g1 : IntKind.i64.wrap (2 * (i : Int)) = (i2 : Int) := by rw [wr64 _ (by omega) (by omega)]; omega
  have g2 : IntKind.i64.wrap ((i2 : Int) + (k : Int)) = (ac : Int) := by rw [wr64 _ (by omega) (by omega)]; omega
  have g3 : IntKind.i64.wrap ((i2 : Int) + (j : Int)) = (al : Int) := by rw [wr64 _ (by omega) (by omega)]; omega
  have g4 : IntKind.i64.wrap ((la : Int) - (i2 : Int)) = (li : Int) := by rw [wr64 _ (by omega) (by omega)]; omega
  have g5 : IntKind.i64.wrap ((li : Int) - (k : Int)) = (lc : Int) := by rw [wr64 _ (by omega) (by omega)]; omega
  have g6 : IntKind.i64.wrap ((li : Int) - (j : Int)) = (ll : Int) := by rw [wr64 _ (by omega) (by omega)]; omega
  have HX : Hid (ptN L c i 0 j k = (posN L c ac, posN L c al)) := by
    show _ = _
    clear g1 g2 g3 g4 g5 g6
    subst hlc hll hla hac hal
    rfl
  have hacB : ac < baseN L c := by omega
  have halB : al < baseN L c := by omega
  have hlcB : lc < baseN L c := by omega
  have hllB : ll < baseN L c := by omega
  have hi9 : i ≤ 32 := by omega
  have hj9 : j ≤ 142 := by omega
  have hl9 : la ≤ 142 := by omega
  have hq9 : ac ≤ 142 ∧ al ≤ 142 ∧ lc ≤ 142 ∧ ll ≤ 142 := by omega
  obtain ⟨q1, q2, q3, q4⟩ := hq9
  have HE := Lib.hid he
  have HI := Lib.hid hI
  obtain ⟨W0, hW0⟩ : ∃ W0, W0 = w.alloc (.cells #[.int .i64 0, .int .i64 0] 47) := ⟨_, rfl⟩
  have HW0 : Hid (Below w.heap.size w W0) := by show Below _ _ _; rw [hW0]; exact bwA _ _
  have HR : Hid (∀ W, Abv W0 W → RowIs W w.heap.size #[.int .i64 0, .int .i64 0] 47) := fun W hW => by
    have : RowIs W0 w.heap.size #[.int .i64 0, .int .i64 0] 47 := by rw [hW0]; exact RowIs.new _ _ _ _ (by simp)
    exact this.below hW
  cases c with
  | true =>
    have Hac : Hid (∀ W, Abv W0 W → Calls Tryz.prog 137 #[.int .i64 ac] W fun e w' => e = .returned (.int .i64 ((posN L true ac : Nat) : Int)) ∧ Below W.heap.size W w') := fun W hW => by rw [show posN L true ac = ac from rfl]; exact (posn1_any ac W).mono (by rintro e w1 ⟨rfl, rfl⟩; exact ⟨rfl, Below.refl _ _⟩)
    have Hal : Hid (∀ W, Abv W0 W → Calls Tryz.prog 137 #[.int .i64 al] W fun e w' => e = .returned (.int .i64 ((posN L true al : Nat) : Int)) ∧ Below W.heap.size W w') := fun W hW => by rw [show posN L true al = al from rfl]; exact (posn1_any al W).mono (by rintro e w1 ⟨rfl, rfl⟩; exact ⟨rfl, Below.refl _ _⟩)
    have CF : Hid (∀ W, Abv W0 W → W.cell? ⟨pb, 0, none⟩ = some (.func (Fn.func 137) #[] #[]) ∧ W.cell? ⟨lb, 0, none⟩ = some (.int .i64 la) ∧ W.cell? ⟨ib, 0, none⟩ = some (.int .i64 i)) := by
      show ∀ W, _
      intro W hW
      have h := HE.out.keep (KeepP.below (bwStep HW0.out hW))
      have hI2 := HI.out.below (bwStep HW0.out hW)
      refine ⟨h.P.cell 0 _ rfl, ?_, hI2.cell 0 _ rfl⟩
      rw [hla]
      exact h.Q.cell 0 _ rfl
    rw [HX.out]
    have HPX : Hid (posN L true ac ≤ 200 ∧ posN L true al ≤ 200) := by
      have := posN_lt hL hacB; have := posN_lt hL halB; have := side_le (c := true) hL
      show _ ∧ _
      omega
    generalize posN L true ac = x at *
    generalize posN L true al = y at *
    clear he hI hi hj hk hla hac hal hlc hll hi2 hli hacB halB hlcB hllB hb1 hb2 hB9 hL
    subst hW0
    go_enter Tryz.func94, Tryz.ntmps94
    go_wp2
    refine wp_region_S (S := (fun W => Abv (w.alloc (.cells #[.int .i64 0, .int .i64 0] 47)) W)) 12 (by kernel_rfl) (by kernel_rfl) (bwDrew (Below.refl _ _)) ?_
    simp only [List.take_succ_cons, List.take_zero, List.drop_succ_cons, List.drop_zero]
    repeat
      refine' wpHS_val rfl (fun W hW => ?_) ?_
      rotate_left
      · have hcf := CF.out W hW; go_simp; rfl
      simp only [Act.put, List.setIfInBounds_toArray, List.set_cons_zero, List.set_cons_succ]
    refine' wpHS_call rfl (fun W => ?_) (fun W hW => ?_) ?_
    rotate_left 3
    · go_simp; first | exact ⟨rfl, rfl⟩ | exact rfl
    · exact (Hac.out W hW).mono (fun e W1 h => ⟨h.1, bwStep hW h.2⟩)
    simp only [Act.put, List.setIfInBounds_toArray, List.set_cons_zero, List.set_cons_succ]
    repeat
      refine' wpHS_val rfl (fun W hW => ?_) ?_
      rotate_left
      · have hcf := CF.out W hW; go_simp; rfl
      simp only [Act.put, List.setIfInBounds_toArray, List.set_cons_zero, List.set_cons_succ]
    refine' wpHS_call rfl (fun W => ?_) (fun W hW => ?_) ?_
    rotate_left 3
    · go_simp; first | exact ⟨rfl, rfl⟩ | exact rfl
    · exact (Hal.out W hW).mono (fun e W1 h => ⟨h.1, bwStep hW h.2⟩)
    simp only [Act.put, List.setIfInBounds_toArray, List.set_cons_zero, List.set_cons_succ]
    refine wpHS_nil ?_
    intro w1 hb1
    have HB1 := Lib.hid hb1
    clear hb1
    have HRW := Lib.hid (HR.out _ HB1.out)
    have d0 : w1.cell? ⟨w.heap.size, 0, none⟩ = some (.int .i64 0) := HRW.out.cell 0 _ rfl
    have d1 : w1.cell? ⟨w.heap.size, 1, none⟩ = some (.int .i64 0) := HRW.out.cell 1 _ rfl
    have z0 : w1.frozen? ⟨w.heap.size, 0, none⟩ = false := frozen_of_row _ _ _ _ _ HRW.out
    have z1 : w1.frozen? ⟨w.heap.size, 1, none⟩ = false := frozen_of_row _ _ _ _ _ HRW.out
    have HBW : Hid (Below w.heap.size w w1) := bwStep HW0.out HB1.out
    go_wp2
    exact bodyPost_ret (v := .agg #[.int .i64 (x : Int), .int .i64 (y : Int)]) (by simp [results, Tryz.results94, go_sem, d0, d1, z0, z1]) rfl ⟨rfl, (HBW.out.setCell (by simp) _).setCell (by simp) _⟩
  | false =>
    have Hac : Hid (∀ W, Abv W0 W → Calls Tryz.prog 138 #[.int .i64 ac, .pointer (some ⟨hb, 0, none⟩), .pointer (some ⟨cb, 0, none⟩)] W fun e w' => e = .returned (.int .i64 ((posN L false ac : Nat) : Int)) ∧ Below W.heap.size W w') := fun W hW => (posn2_any L ac hb cb W hL hacB ((HE.out.keep (KeepP.below (bwStep HW0.out hW))).H rfl)).mono (by rintro e w1 ⟨rfl, rfl⟩; exact ⟨rfl, Below.refl _ _⟩)
    have Hal : Hid (∀ W, Abv W0 W → Calls Tryz.prog 138 #[.int .i64 al, .pointer (some ⟨hb, 0, none⟩), .pointer (some ⟨cb, 0, none⟩)] W fun e w' => e = .returned (.int .i64 ((posN L false al : Nat) : Int)) ∧ Below W.heap.size W w') := fun W hW => (posn2_any L al hb cb W hL halB ((HE.out.keep (KeepP.below (bwStep HW0.out hW))).H rfl)).mono (by rintro e w1 ⟨rfl, rfl⟩; exact ⟨rfl, Below.refl _ _⟩)
    have CF : Hid (∀ W, Abv W0 W → W.cell? ⟨pb, 0, none⟩ = some (.func (Fn.func 138) #[] #[.pointer (some ⟨hb, 0, none⟩), .pointer (some ⟨cb, 0, none⟩)]) ∧ W.cell? ⟨lb, 0, none⟩ = some (.int .i64 la) ∧ W.cell? ⟨ib, 0, none⟩ = some (.int .i64 i)) := by
      show ∀ W, _
      intro W hW
      have h := HE.out.keep (KeepP.below (bwStep HW0.out hW))
      have hI2 := HI.out.below (bwStep HW0.out hW)
      refine ⟨h.P.cell 0 _ rfl, ?_, hI2.cell 0 _ rfl⟩
      rw [hla]
      exact h.Q.cell 0 _ rfl
    rw [HX.out]
    have HPX : Hid (posN L false ac ≤ 200 ∧ posN L false al ≤ 200) := by
      have := posN_lt hL hacB; have := posN_lt hL halB; have := side_le (c := false) hL
      show _ ∧ _
      omega
    generalize posN L false ac = x at *
    generalize posN L false al = y at *
    clear he hI hi hj hk hla hac hal hlc hll hi2 hli hacB halB hlcB hllB hb1 hb2 hB9 hL
    subst hW0
    go_enter Tryz.func94, Tryz.ntmps94
    go_wp2
    refine wp_region_S (S := (fun W => Abv (w.alloc (.cells #[.int .i64 0, .int .i64 0] 47)) W)) 12 (by kernel_rfl) (by kernel_rfl) (bwDrew (Below.refl _ _)) ?_
    simp only [List.take_succ_cons, List.take_zero, List.drop_succ_cons, List.drop_zero]
    repeat
      refine' wpHS_val rfl (fun W hW => ?_) ?_
      rotate_left
      · have hcf := CF.out W hW; go_simp; rfl
      simp only [Act.put, List.setIfInBounds_toArray, List.set_cons_zero, List.set_cons_succ]
    refine' wpHS_call rfl (fun W => ?_) (fun W hW => ?_) ?_
    rotate_left 3
    · go_simp; first | exact ⟨rfl, rfl⟩ | exact rfl
    · exact (Hac.out W hW).mono (fun e W1 h => ⟨h.1, bwStep hW h.2⟩)
    simp only [Act.put, List.setIfInBounds_toArray, List.set_cons_zero, List.set_cons_succ]
    repeat
      refine' wpHS_val rfl (fun W hW => ?_) ?_
      rotate_left
      · have hcf := CF.out W hW; go_simp; rfl
      simp only [Act.put, List.setIfInBounds_toArray, List.set_cons_zero, List.set_cons_succ]
    refine' wpHS_call rfl (fun W => ?_) (fun W hW => ?_) ?_
    rotate_left 3
    · go_simp; first | exact ⟨rfl, rfl⟩ | exact rfl
    · exact (Hal.out W hW).mono (fun e W1 h => ⟨h.1, bwStep hW h.2⟩)
    simp only [Act.put, List.setIfInBounds_toArray, List.set_cons_zero, List.set_cons_succ]
    refine wpHS_nil ?_
    intro w1 hb1
    have HB1 := Lib.hid hb1
    clear hb1
    have HRW := Lib.hid (HR.out _ HB1.out)
    have d0 : w1.cell? ⟨w.heap.size, 0, none⟩ = some (.int .i64 0) := HRW.out.cell 0 _ rfl
    have d1 : w1.cell? ⟨w.heap.size, 1, none⟩ = some (.int .i64 0) := HRW.out.cell 1 _ rfl
    have z0 : w1.frozen? ⟨w.heap.size, 0, none⟩ = false := frozen_of_row _ _ _ _ _ HRW.out
    have z1 : w1.frozen? ⟨w.heap.size, 1, none⟩ = false := frozen_of_row _ _ _ _ _ HRW.out
    have HBW : Hid (Below w.heap.size w w1) := bwStep HW0.out HB1.out
    go_wp2
    exact bodyPost_ret (v := .agg #[.int .i64 (x : Int), .int .i64 (y : Int)]) (by simp [results, Tryz.results94, go_sem, d0, d1, z0, z1]) rfl ⟨rfl, (HBW.out.setCell (by simp) _).setCell (by simp) _⟩
set_option maxRecDepth 100000 in
set_option maxHeartbeats 2000000 in
theorem at1_any (L : Nat) (c : Bool) (pb lb ib hb cb i j k : Nat) (w : World) (hL : L ≤ 32) (hi : i < L) (hj : j < rN L c i) (hk : k < 2) (he : PEnv L c pb lb hb cb w) (hI : RowIs w ib #[.int .i64 i] 3) :
    Calls Tryz.prog 95 #[.int .i64 j, .int .i64 k, .pointer (some ⟨pb, 0, none⟩), .pointer (some ⟨ib, 0, none⟩), .pointer (some ⟨lb, 0, none⟩)] w fun e w' => e = .returned (.agg #[.int .i64 (((ptN L c i 1 j k).1 : Nat) : Int), .int .i64 (((ptN L c i 1 j k).2 : Nat) : Int)]) ∧ Below w.heap.size w w' := by
  obtain ⟨hb1, hb2⟩ := bx_lt (s := 0) hL hi hj hk
  have hB9 := (base_le (c := c) hL).2
  obtain ⟨ac, hac⟩ : ∃ ac, ac = 2 * i + k := ⟨_, rfl⟩
  obtain ⟨al, hal⟩ : ∃ al, al = 2 * i + j := ⟨_, rfl⟩
  obtain ⟨la, hla⟩ : ∃ la, la = baseN L c - 1 := ⟨_, rfl⟩
  obtain ⟨lc, hlc⟩ : ∃ lc, lc = la - ac := ⟨_, rfl⟩
  obtain ⟨ll, hll⟩ : ∃ ll, ll = la - al := ⟨_, rfl⟩
  obtain ⟨i2, hi2⟩ : ∃ i2, i2 = 2 * i := ⟨_, rfl⟩
  obtain ⟨li, hli⟩ : ∃ li, li = la - i2 := ⟨_, rfl⟩
  have g1 : IntKind.i64.wrap (2 * (i : Int)) = (i2 : Int) := by rw [wr64 _ (by omega) (by omega)]; omega
  have g2 : IntKind.i64.wrap ((i2 : Int) + (k : Int)) = (ac : Int) := by rw [wr64 _ (by omega) (by omega)]; omega
  have g3 : IntKind.i64.wrap ((i2 : Int) + (j : Int)) = (al : Int) := by rw [wr64 _ (by omega) (by omega)]; omega
  have g4 : IntKind.i64.wrap ((la : Int) - (i2 : Int)) = (li : Int) := by rw [wr64 _ (by omega) (by omega)]; omega
  have g5 : IntKind.i64.wrap ((li : Int) - (k : Int)) = (lc : Int) := by rw [wr64 _ (by omega) (by omega)]; omega
  have g6 : IntKind.i64.wrap ((li : Int) - (j : Int)) = (ll : Int) := by rw [wr64 _ (by omega) (by omega)]; omega
  have HX : Hid (ptN L c i 1 j k = (posN L c al, posN L c lc)) := by
    show _ = _
    clear g1 g2 g3 g4 g5 g6
    subst hlc hll hla hac hal
    rfl
  have hacB : ac < baseN L c := by omega
  have halB : al < baseN L c := by omega
  have hlcB : lc < baseN L c := by omega
  have hllB : ll < baseN L c := by omega
  have hi9 : i ≤ 32 := by omega
  have hj9 : j ≤ 142 := by omega
  have hl9 : la ≤ 142 := by omega
  have hq9 : ac ≤ 142 ∧ al ≤ 142 ∧ lc ≤ 142 ∧ ll ≤ 142 := by omega
  obtain ⟨q1, q2, q3, q4⟩ := hq9
  have HE := Lib.hid he
  have HI := Lib.hid hI
  obtain ⟨W0, hW0⟩ : ∃ W0, W0 = w.alloc (.cells #[.int .i64 0, .int .i64 0] 47) := ⟨_, rfl⟩
  have HW0 : Hid (Below w.heap.size w W0) := by show Below _ _ _; rw [hW0]; exact bwA _ _
  have HR : Hid (∀ W, Abv W0 W → RowIs W w.heap.size #[.int .i64 0, .int .i64 0] 47) := fun W hW => by
    have : RowIs W0 w.heap.size #[.int .i64 0, .int .i64 0] 47 := by rw [hW0]; exact RowIs.new _ _ _ _ (by simp)
    exact this.below hW
  cases c with
  | true =>
    have Hal : Hid (∀ W, Abv W0 W → Calls Tryz.prog 137 #[.int .i64 al] W fun e w' => e = .returned (.int .i64 ((posN L true al : Nat) : Int)) ∧ Below W.heap.size W w') := fun W hW => by rw [show posN L true al = al from rfl]; exact (posn1_any al W).mono (by rintro e w1 ⟨rfl, rfl⟩; exact ⟨rfl, Below.refl _ _⟩)
    have Hlc : Hid (∀ W, Abv W0 W → Calls Tryz.prog 137 #[.int .i64 lc] W fun e w' => e = .returned (.int .i64 ((posN L true lc : Nat) : Int)) ∧ Below W.heap.size W w') := fun W hW => by rw [show posN L true lc = lc from rfl]; exact (posn1_any lc W).mono (by rintro e w1 ⟨rfl, rfl⟩; exact ⟨rfl, Below.refl _ _⟩)
    have CF : Hid (∀ W, Abv W0 W → W.cell? ⟨pb, 0, none⟩ = some (.func (Fn.func 137) #[] #[]) ∧ W.cell? ⟨lb, 0, none⟩ = some (.int .i64 la) ∧ W.cell? ⟨ib, 0, none⟩ = some (.int .i64 i)) := by
      show ∀ W, _
      intro W hW
      have h := HE.out.keep (KeepP.below (bwStep HW0.out hW))
      have hI2 := HI.out.below (bwStep HW0.out hW)
      refine ⟨h.P.cell 0 _ rfl, ?_, hI2.cell 0 _ rfl⟩
      rw [hla]
      exact h.Q.cell 0 _ rfl
    rw [HX.out]
    have HPX : Hid (posN L true al ≤ 200 ∧ posN L true lc ≤ 200) := by
      have := posN_lt hL halB; have := posN_lt hL hlcB; have := side_le (c := true) hL
      show _ ∧ _
      omega
    generalize posN L true al = x at *
    generalize posN L true lc = y at *
    clear he hI hi hj hk hla hac hal hlc hll hi2 hli hacB halB hlcB hllB hb1 hb2 hB9 hL
    subst hW0
    go_enter Tryz.func95, Tryz.ntmps95
    go_wp2
    refine wp_region_S (S := (fun W => Abv (w.alloc (.cells #[.int .i64 0, .int .i64 0] 47)) W)) 14 (by kernel_rfl) (by kernel_rfl) (bwDrew (Below.refl _ _)) ?_
    simp only [List.take_succ_cons, List.take_zero, List.drop_succ_cons, List.drop_zero]
    repeat
      refine' wpHS_val rfl (fun W hW => ?_) ?_
      rotate_left
      · have hcf := CF.out W hW; go_simp; rfl
      simp only [Act.put, List.setIfInBounds_toArray, List.set_cons_zero, List.set_cons_succ]
    refine' wpHS_call rfl (fun W => ?_) (fun W hW => ?_) ?_
    rotate_left 3
    · go_simp; first | exact ⟨rfl, rfl⟩ | exact rfl
    · exact (Hal.out W hW).mono (fun e W1 h => ⟨h.1, bwStep hW h.2⟩)
    simp only [Act.put, List.setIfInBounds_toArray, List.set_cons_zero, List.set_cons_succ]
    repeat
      refine' wpHS_val rfl (fun W hW => ?_) ?_
      rotate_left
      · have hcf := CF.out W hW; go_simp; rfl
      simp only [Act.put, List.setIfInBounds_toArray, List.set_cons_zero, List.set_cons_succ]
    refine' wpHS_call rfl (fun W => ?_) (fun W hW => ?_) ?_
    rotate_left 3
    · go_simp; first | exact ⟨rfl, rfl⟩ | exact rfl
    · exact (Hlc.out W hW).mono (fun e W1 h => ⟨h.1, bwStep hW h.2⟩)
    simp only [Act.put, List.setIfInBounds_toArray, List.set_cons_zero, List.set_cons_succ]
    refine wpHS_nil ?_
    intro w1 hb1
    have HB1 := Lib.hid hb1
    clear hb1
    have HRW := Lib.hid (HR.out _ HB1.out)
    have d0 : w1.cell? ⟨w.heap.size, 0, none⟩ = some (.int .i64 0) := HRW.out.cell 0 _ rfl
    have d1 : w1.cell? ⟨w.heap.size, 1, none⟩ = some (.int .i64 0) := HRW.out.cell 1 _ rfl
    have z0 : w1.frozen? ⟨w.heap.size, 0, none⟩ = false := frozen_of_row _ _ _ _ _ HRW.out
    have z1 : w1.frozen? ⟨w.heap.size, 1, none⟩ = false := frozen_of_row _ _ _ _ _ HRW.out
    have HBW : Hid (Below w.heap.size w w1) := bwStep HW0.out HB1.out
    go_wp2
    exact bodyPost_ret (v := .agg #[.int .i64 (x : Int), .int .i64 (y : Int)]) (by simp [results, Tryz.results95, go_sem, d0, d1, z0, z1]) rfl ⟨rfl, (HBW.out.setCell (by simp) _).setCell (by simp) _⟩
  | false =>
    have Hal : Hid (∀ W, Abv W0 W → Calls Tryz.prog 138 #[.int .i64 al, .pointer (some ⟨hb, 0, none⟩), .pointer (some ⟨cb, 0, none⟩)] W fun e w' => e = .returned (.int .i64 ((posN L false al : Nat) : Int)) ∧ Below W.heap.size W w') := fun W hW => (posn2_any L al hb cb W hL halB ((HE.out.keep (KeepP.below (bwStep HW0.out hW))).H rfl)).mono (by rintro e w1 ⟨rfl, rfl⟩; exact ⟨rfl, Below.refl _ _⟩)
    have Hlc : Hid (∀ W, Abv W0 W → Calls Tryz.prog 138 #[.int .i64 lc, .pointer (some ⟨hb, 0, none⟩), .pointer (some ⟨cb, 0, none⟩)] W fun e w' => e = .returned (.int .i64 ((posN L false lc : Nat) : Int)) ∧ Below W.heap.size W w') := fun W hW => (posn2_any L lc hb cb W hL hlcB ((HE.out.keep (KeepP.below (bwStep HW0.out hW))).H rfl)).mono (by rintro e w1 ⟨rfl, rfl⟩; exact ⟨rfl, Below.refl _ _⟩)
    have CF : Hid (∀ W, Abv W0 W → W.cell? ⟨pb, 0, none⟩ = some (.func (Fn.func 138) #[] #[.pointer (some ⟨hb, 0, none⟩), .pointer (some ⟨cb, 0, none⟩)]) ∧ W.cell? ⟨lb, 0, none⟩ = some (.int .i64 la) ∧ W.cell? ⟨ib, 0, none⟩ = some (.int .i64 i)) := by
      show ∀ W, _
      intro W hW
      have h := HE.out.keep (KeepP.below (bwStep HW0.out hW))
      have hI2 := HI.out.below (bwStep HW0.out hW)
      refine ⟨h.P.cell 0 _ rfl, ?_, hI2.cell 0 _ rfl⟩
      rw [hla]
      exact h.Q.cell 0 _ rfl
    rw [HX.out]
    have HPX : Hid (posN L false al ≤ 200 ∧ posN L false lc ≤ 200) := by
      have := posN_lt hL halB; have := posN_lt hL hlcB; have := side_le (c := false) hL
      show _ ∧ _
      omega
    generalize posN L false al = x at *
    generalize posN L false lc = y at *
    clear he hI hi hj hk hla hac hal hlc hll hi2 hli hacB halB hlcB hllB hb1 hb2 hB9 hL
    subst hW0
    go_enter Tryz.func95, Tryz.ntmps95
    go_wp2
    refine wp_region_S (S := (fun W => Abv (w.alloc (.cells #[.int .i64 0, .int .i64 0] 47)) W)) 14 (by kernel_rfl) (by kernel_rfl) (bwDrew (Below.refl _ _)) ?_
    simp only [List.take_succ_cons, List.take_zero, List.drop_succ_cons, List.drop_zero]
    repeat
      refine' wpHS_val rfl (fun W hW => ?_) ?_
      rotate_left
      · have hcf := CF.out W hW; go_simp; rfl
      simp only [Act.put, List.setIfInBounds_toArray, List.set_cons_zero, List.set_cons_succ]
    refine' wpHS_call rfl (fun W => ?_) (fun W hW => ?_) ?_
    rotate_left 3
    · go_simp; first | exact ⟨rfl, rfl⟩ | exact rfl
    · exact (Hal.out W hW).mono (fun e W1 h => ⟨h.1, bwStep hW h.2⟩)
    simp only [Act.put, List.setIfInBounds_toArray, List.set_cons_zero, List.set_cons_succ]
    repeat
      refine' wpHS_val rfl (fun W hW => ?_) ?_
      rotate_left
      · have hcf := CF.out W hW; go_simp; rfl
      simp only [Act.put, List.setIfInBounds_toArray, List.set_cons_zero, List.set_cons_succ]
    refine' wpHS_call rfl (fun W => ?_) (fun W hW => ?_) ?_
    rotate_left 3
    · go_simp; first | exact ⟨rfl, rfl⟩ | exact rfl
    · exact (Hlc.out W hW).mono (fun e W1 h => ⟨h.1, bwStep hW h.2⟩)
    simp only [Act.put, List.setIfInBounds_toArray, List.set_cons_zero, List.set_cons_succ]
    refine wpHS_nil ?_
    intro w1 hb1
    have HB1 := Lib.hid hb1
    clear hb1
    have HRW := Lib.hid (HR.out _ HB1.out)
    have d0 : w1.cell? ⟨w.heap.size, 0, none⟩ = some (.int .i64 0) := HRW.out.cell 0 _ rfl
    have d1 : w1.cell? ⟨w.heap.size, 1, none⟩ = some (.int .i64 0) := HRW.out.cell 1 _ rfl
    have z0 : w1.frozen? ⟨w.heap.size, 0, none⟩ = false := frozen_of_row _ _ _ _ _ HRW.out
    have z1 : w1.frozen? ⟨w.heap.size, 1, none⟩ = false := frozen_of_row _ _ _ _ _ HRW.out
    have HBW : Hid (Below w.heap.size w w1) := bwStep HW0.out HB1.out
    go_wp2
    exact bodyPost_ret (v := .agg #[.int .i64 (x : Int), .int .i64 (y : Int)]) (by simp [results, Tryz.results95, go_sem, d0, d1, z0, z1]) rfl ⟨rfl, (HBW.out.setCell (by simp) _).setCell (by simp) _⟩
set_option maxRecDepth 100000 in
set_option maxHeartbeats 2000000 in
theorem at2_any (L : Nat) (c : Bool) (pb lb ib hb cb i j k : Nat) (w : World) (hL : L ≤ 32) (hi : i < L) (hj : j < rN L c i) (hk : k < 2) (he : PEnv L c pb lb hb cb w) (hI : RowIs w ib #[.int .i64 i] 3) :
    Calls Tryz.prog 96 #[.int .i64 j, .int .i64 k, .pointer (some ⟨pb, 0, none⟩), .pointer (some ⟨lb, 0, none⟩), .pointer (some ⟨ib, 0, none⟩)] w fun e w' => e = .returned (.agg #[.int .i64 (((ptN L c i 2 j k).1 : Nat) : Int), .int .i64 (((ptN L c i 2 j k).2 : Nat) : Int)]) ∧ Below w.heap.size w w' := by
  obtain ⟨hb1, hb2⟩ := bx_lt (s := 0) hL hi hj hk
  have hB9 := (base_le (c := c) hL).2
  obtain ⟨ac, hac⟩ : ∃ ac, ac = 2 * i + k := ⟨_, rfl⟩
  obtain ⟨al, hal⟩ : ∃ al, al = 2 * i + j := ⟨_, rfl⟩
  obtain ⟨la, hla⟩ : ∃ la, la = baseN L c - 1 := ⟨_, rfl⟩
  obtain ⟨lc, hlc⟩ : ∃ lc, lc = la - ac := ⟨_, rfl⟩
  obtain ⟨ll, hll⟩ : ∃ ll, ll = la - al := ⟨_, rfl⟩
  obtain ⟨i2, hi2⟩ : ∃ i2, i2 = 2 * i := ⟨_, rfl⟩
  obtain ⟨li, hli⟩ : ∃ li, li = la - i2 := ⟨_, rfl⟩
  have g1 : IntKind.i64.wrap (2 * (i : Int)) = (i2 : Int) := by rw [wr64 _ (by omega) (by omega)]; omega
  have g2 : IntKind.i64.wrap ((i2 : Int) + (k : Int)) = (ac : Int) := by rw [wr64 _ (by omega) (by omega)]; omega
  have g3 : IntKind.i64.wrap ((i2 : Int) + (j : Int)) = (al : Int) := by rw [wr64 _ (by omega) (by omega)]; omega
  have g4 : IntKind.i64.wrap ((la : Int) - (i2 : Int)) = (li : Int) := by rw [wr64 _ (by omega) (by omega)]; omega
  have g5 : IntKind.i64.wrap ((li : Int) - (k : Int)) = (lc : Int) := by rw [wr64 _ (by omega) (by omega)]; omega
  have g6 : IntKind.i64.wrap ((li : Int) - (j : Int)) = (ll : Int) := by rw [wr64 _ (by omega) (by omega)]; omega
  have HX : Hid (ptN L c i 2 j k = (posN L c lc, posN L c ll)) := by
    show _ = _
    clear g1 g2 g3 g4 g5 g6
    subst hlc hll hla hac hal
    rfl
  have hacB : ac < baseN L c := by omega
  have halB : al < baseN L c := by omega
  have hlcB : lc < baseN L c := by omega
  have hllB : ll < baseN L c := by omega
  have hi9 : i ≤ 32 := by omega
  have hj9 : j ≤ 142 := by omega
  have hl9 : la ≤ 142 := by omega
  have hq9 : ac ≤ 142 ∧ al ≤ 142 ∧ lc ≤ 142 ∧ ll ≤ 142 := by omega
  obtain ⟨q1, q2, q3, q4⟩ := hq9
  have HE := Lib.hid he
  have HI := Lib.hid hI
  obtain ⟨W0, hW0⟩ : ∃ W0, W0 = w.alloc (.cells #[.int .i64 0, .int .i64 0] 47) := ⟨_, rfl⟩
  have HW0 : Hid (Below w.heap.size w W0) := by show Below _ _ _; rw [hW0]; exact bwA _ _
  have HR : Hid (∀ W, Abv W0 W → RowIs W w.heap.size #[.int .i64 0, .int .i64 0] 47) := fun W hW => by
    have : RowIs W0 w.heap.size #[.int .i64 0, .int .i64 0] 47 := by rw [hW0]; exact RowIs.new _ _ _ _ (by simp)
    exact this.below hW
  cases c with
  | true =>
    have Hlc : Hid (∀ W, Abv W0 W → Calls Tryz.prog 137 #[.int .i64 lc] W fun e w' => e = .returned (.int .i64 ((posN L true lc : Nat) : Int)) ∧ Below W.heap.size W w') := fun W hW => by rw [show posN L true lc = lc from rfl]; exact (posn1_any lc W).mono (by rintro e w1 ⟨rfl, rfl⟩; exact ⟨rfl, Below.refl _ _⟩)
    have Hll : Hid (∀ W, Abv W0 W → Calls Tryz.prog 137 #[.int .i64 ll] W fun e w' => e = .returned (.int .i64 ((posN L true ll : Nat) : Int)) ∧ Below W.heap.size W w') := fun W hW => by rw [show posN L true ll = ll from rfl]; exact (posn1_any ll W).mono (by rintro e w1 ⟨rfl, rfl⟩; exact ⟨rfl, Below.refl _ _⟩)
    have CF : Hid (∀ W, Abv W0 W → W.cell? ⟨pb, 0, none⟩ = some (.func (Fn.func 137) #[] #[]) ∧ W.cell? ⟨lb, 0, none⟩ = some (.int .i64 la) ∧ W.cell? ⟨ib, 0, none⟩ = some (.int .i64 i)) := by
      show ∀ W, _
      intro W hW
      have h := HE.out.keep (KeepP.below (bwStep HW0.out hW))
      have hI2 := HI.out.below (bwStep HW0.out hW)
      refine ⟨h.P.cell 0 _ rfl, ?_, hI2.cell 0 _ rfl⟩
      rw [hla]
      exact h.Q.cell 0 _ rfl
    rw [HX.out]
    have HPX : Hid (posN L true lc ≤ 200 ∧ posN L true ll ≤ 200) := by
      have := posN_lt hL hlcB; have := posN_lt hL hllB; have := side_le (c := true) hL
      show _ ∧ _
      omega
    generalize posN L true lc = x at *
    generalize posN L true ll = y at *
    clear he hI hi hj hk hla hac hal hlc hll hi2 hli hacB halB hlcB hllB hb1 hb2 hB9 hL
    subst hW0
    go_enter Tryz.func96, Tryz.ntmps96
    go_wp2
    refine wp_region_S (S := (fun W => Abv (w.alloc (.cells #[.int .i64 0, .int .i64 0] 47)) W)) 16 (by kernel_rfl) (by kernel_rfl) (bwDrew (Below.refl _ _)) ?_
    simp only [List.take_succ_cons, List.take_zero, List.drop_succ_cons, List.drop_zero]
    repeat
      refine' wpHS_val rfl (fun W hW => ?_) ?_
      rotate_left
      · have hcf := CF.out W hW; go_simp; rfl
      simp only [Act.put, List.setIfInBounds_toArray, List.set_cons_zero, List.set_cons_succ]
    refine' wpHS_call rfl (fun W => ?_) (fun W hW => ?_) ?_
    rotate_left 3
    · go_simp; first | exact ⟨rfl, rfl⟩ | exact rfl
    · exact (Hlc.out W hW).mono (fun e W1 h => ⟨h.1, bwStep hW h.2⟩)
    simp only [Act.put, List.setIfInBounds_toArray, List.set_cons_zero, List.set_cons_succ]
    repeat
      refine' wpHS_val rfl (fun W hW => ?_) ?_
      rotate_left
      · have hcf := CF.out W hW; go_simp; rfl
      simp only [Act.put, List.setIfInBounds_toArray, List.set_cons_zero, List.set_cons_succ]
    refine' wpHS_call rfl (fun W => ?_) (fun W hW => ?_) ?_
    rotate_left 3
    · go_simp; first | exact ⟨rfl, rfl⟩ | exact rfl
    · exact (Hll.out W hW).mono (fun e W1 h => ⟨h.1, bwStep hW h.2⟩)
    simp only [Act.put, List.setIfInBounds_toArray, List.set_cons_zero, List.set_cons_succ]
    refine wpHS_nil ?_
    intro w1 hb1
    have HB1 := Lib.hid hb1
    clear hb1
    have HRW := Lib.hid (HR.out _ HB1.out)
    have d0 : w1.cell? ⟨w.heap.size, 0, none⟩ = some (.int .i64 0) := HRW.out.cell 0 _ rfl
    have d1 : w1.cell? ⟨w.heap.size, 1, none⟩ = some (.int .i64 0) := HRW.out.cell 1 _ rfl
    have z0 : w1.frozen? ⟨w.heap.size, 0, none⟩ = false := frozen_of_row _ _ _ _ _ HRW.out
    have z1 : w1.frozen? ⟨w.heap.size, 1, none⟩ = false := frozen_of_row _ _ _ _ _ HRW.out
    have HBW : Hid (Below w.heap.size w w1) := bwStep HW0.out HB1.out
    go_wp2
    exact bodyPost_ret (v := .agg #[.int .i64 (x : Int), .int .i64 (y : Int)]) (by simp [results, Tryz.results96, go_sem, d0, d1, z0, z1]) rfl ⟨rfl, (HBW.out.setCell (by simp) _).setCell (by simp) _⟩
  | false =>
    have Hlc : Hid (∀ W, Abv W0 W → Calls Tryz.prog 138 #[.int .i64 lc, .pointer (some ⟨hb, 0, none⟩), .pointer (some ⟨cb, 0, none⟩)] W fun e w' => e = .returned (.int .i64 ((posN L false lc : Nat) : Int)) ∧ Below W.heap.size W w') := fun W hW => (posn2_any L lc hb cb W hL hlcB ((HE.out.keep (KeepP.below (bwStep HW0.out hW))).H rfl)).mono (by rintro e w1 ⟨rfl, rfl⟩; exact ⟨rfl, Below.refl _ _⟩)
    have Hll : Hid (∀ W, Abv W0 W → Calls Tryz.prog 138 #[.int .i64 ll, .pointer (some ⟨hb, 0, none⟩), .pointer (some ⟨cb, 0, none⟩)] W fun e w' => e = .returned (.int .i64 ((posN L false ll : Nat) : Int)) ∧ Below W.heap.size W w') := fun W hW => (posn2_any L ll hb cb W hL hllB ((HE.out.keep (KeepP.below (bwStep HW0.out hW))).H rfl)).mono (by rintro e w1 ⟨rfl, rfl⟩; exact ⟨rfl, Below.refl _ _⟩)
    have CF : Hid (∀ W, Abv W0 W → W.cell? ⟨pb, 0, none⟩ = some (.func (Fn.func 138) #[] #[.pointer (some ⟨hb, 0, none⟩), .pointer (some ⟨cb, 0, none⟩)]) ∧ W.cell? ⟨lb, 0, none⟩ = some (.int .i64 la) ∧ W.cell? ⟨ib, 0, none⟩ = some (.int .i64 i)) := by
      show ∀ W, _
      intro W hW
      have h := HE.out.keep (KeepP.below (bwStep HW0.out hW))
      have hI2 := HI.out.below (bwStep HW0.out hW)
      refine ⟨h.P.cell 0 _ rfl, ?_, hI2.cell 0 _ rfl⟩
      rw [hla]
      exact h.Q.cell 0 _ rfl
    rw [HX.out]
    have HPX : Hid (posN L false lc ≤ 200 ∧ posN L false ll ≤ 200) := by
      have := posN_lt hL hlcB; have := posN_lt hL hllB; have := side_le (c := false) hL
      show _ ∧ _
      omega
    generalize posN L false lc = x at *
    generalize posN L false ll = y at *
    clear he hI hi hj hk hla hac hal hlc hll hi2 hli hacB halB hlcB hllB hb1 hb2 hB9 hL
    subst hW0
    go_enter Tryz.func96, Tryz.ntmps96
    go_wp2
    refine wp_region_S (S := (fun W => Abv (w.alloc (.cells #[.int .i64 0, .int .i64 0] 47)) W)) 16 (by kernel_rfl) (by kernel_rfl) (bwDrew (Below.refl _ _)) ?_
    simp only [List.take_succ_cons, List.take_zero, List.drop_succ_cons, List.drop_zero]
    repeat
      refine' wpHS_val rfl (fun W hW => ?_) ?_
      rotate_left
      · have hcf := CF.out W hW; go_simp; rfl
      simp only [Act.put, List.setIfInBounds_toArray, List.set_cons_zero, List.set_cons_succ]
    refine' wpHS_call rfl (fun W => ?_) (fun W hW => ?_) ?_
    rotate_left 3
    · go_simp; first | exact ⟨rfl, rfl⟩ | exact rfl
    · exact (Hlc.out W hW).mono (fun e W1 h => ⟨h.1, bwStep hW h.2⟩)
    simp only [Act.put, List.setIfInBounds_toArray, List.set_cons_zero, List.set_cons_succ]
    repeat
      refine' wpHS_val rfl (fun W hW => ?_) ?_
      rotate_left
      · have hcf := CF.out W hW; go_simp; rfl
      simp only [Act.put, List.setIfInBounds_toArray, List.set_cons_zero, List.set_cons_succ]
    refine' wpHS_call rfl (fun W => ?_) (fun W hW => ?_) ?_
    rotate_left 3
    · go_simp; first | exact ⟨rfl, rfl⟩ | exact rfl
    · exact (Hll.out W hW).mono (fun e W1 h => ⟨h.1, bwStep hW h.2⟩)
    simp only [Act.put, List.setIfInBounds_toArray, List.set_cons_zero, List.set_cons_succ]
    refine wpHS_nil ?_
    intro w1 hb1
    have HB1 := Lib.hid hb1
    clear hb1
    have HRW := Lib.hid (HR.out _ HB1.out)
    have d0 : w1.cell? ⟨w.heap.size, 0, none⟩ = some (.int .i64 0) := HRW.out.cell 0 _ rfl
    have d1 : w1.cell? ⟨w.heap.size, 1, none⟩ = some (.int .i64 0) := HRW.out.cell 1 _ rfl
    have z0 : w1.frozen? ⟨w.heap.size, 0, none⟩ = false := frozen_of_row _ _ _ _ _ HRW.out
    have z1 : w1.frozen? ⟨w.heap.size, 1, none⟩ = false := frozen_of_row _ _ _ _ _ HRW.out
    have HBW : Hid (Below w.heap.size w w1) := bwStep HW0.out HB1.out
    go_wp2
    exact bodyPost_ret (v := .agg #[.int .i64 (x : Int), .int .i64 (y : Int)]) (by simp [results, Tryz.results96, go_sem, d0, d1, z0, z1]) rfl ⟨rfl, (HBW.out.setCell (by simp) _).setCell (by simp) _⟩
set_option maxRecDepth 100000 in
set_option maxHeartbeats 2000000 in
theorem at3_any (L : Nat) (c : Bool) (pb lb ib hb cb i j k : Nat) (w : World) (hL : L ≤ 32) (hi : i < L) (hj : j < rN L c i) (hk : k < 2) (he : PEnv L c pb lb hb cb w) (hI : RowIs w ib #[.int .i64 i] 3) :
    Calls Tryz.prog 97 #[.int .i64 j, .int .i64 k, .pointer (some ⟨pb, 0, none⟩), .pointer (some ⟨lb, 0, none⟩), .pointer (some ⟨ib, 0, none⟩)] w fun e w' => e = .returned (.agg #[.int .i64 (((ptN L c i 3 j k).1 : Nat) : Int), .int .i64 (((ptN L c i 3 j k).2 : Nat) : Int)]) ∧ Below w.heap.size w w' := by
  obtain ⟨hb1, hb2⟩ := bx_lt (s := 0) hL hi hj hk
  have hB9 := (base_le (c := c) hL).2
  obtain ⟨ac, hac⟩ : ∃ ac, ac = 2 * i + k := ⟨_, rfl⟩
  obtain ⟨al, hal⟩ : ∃ al, al = 2 * i + j := ⟨_, rfl⟩
  obtain ⟨la, hla⟩ : ∃ la, la = baseN L c - 1 := ⟨_, rfl⟩
  obtain ⟨lc, hlc⟩ : ∃ lc, lc = la - ac := ⟨_, rfl⟩
  obtain ⟨ll, hll⟩ : ∃ ll, ll = la - al := ⟨_, rfl⟩
  obtain ⟨i2, hi2⟩ : ∃ i2, i2 = 2 * i := ⟨_, rfl⟩
  obtain ⟨li, hli⟩ : ∃ li, li = la - i2 := ⟨_, rfl⟩
  have g1 : IntKind.i64.wrap (2 * (i : Int)) = (i2 : Int) := by rw [wr64 _ (by omega) (by omega)]; omega
  have g2 : IntKind.i64.wrap ((i2 : Int) + (k : Int)) = (ac : Int) := by rw [wr64 _ (by omega) (by omega)]; omega
  have g3 : IntKind.i64.wrap ((i2 : Int) + (j : Int)) = (al : Int) := by rw [wr64 _ (by omega) (by omega)]; omega
  have g4 : IntKind.i64.wrap ((la : Int) - (i2 : Int)) = (li : Int) := by rw [wr64 _ (by omega) (by omega)]; omega
  have g5 : IntKind.i64.wrap ((li : Int) - (k : Int)) = (lc : Int) := by rw [wr64 _ (by omega) (by omega)]; omega
  have g6 : IntKind.i64.wrap ((li : Int) - (j : Int)) = (ll : Int) := by rw [wr64 _ (by omega) (by omega)]; omega
  have HX : Hid (ptN L c i 3 j k = (posN L c ll, posN L c ac)) := by
    show _ = _
    clear g1 g2 g3 g4 g5 g6
    subst hlc hll hla hac hal
    rfl
  have hacB : ac < baseN L c := by omega
  have halB : al < baseN L c := by omega
  have hlcB : lc < baseN L c := by omega
  have hllB : ll < baseN L c := by omega
  have hi9 : i ≤ 32 := by omega
  have hj9 : j ≤ 142 := by omega
  have hl9 : la ≤ 142 := by omega
  have hq9 : ac ≤ 142 ∧ al ≤ 142 ∧ lc ≤ 142 ∧ ll ≤ 142 := by omega
  obtain ⟨q1, q2, q3, q4⟩ := hq9
  have HE := Lib.hid he
  have HI := Lib.hid hI
  obtain ⟨W0, hW0⟩ : ∃ W0, W0 = w.alloc (.cells #[.int .i64 0, .int .i64 0] 47) := ⟨_, rfl⟩
  have HW0 : Hid (Below w.heap.size w W0) := by show Below _ _ _; rw [hW0]; exact bwA _ _
  have HR : Hid (∀ W, Abv W0 W → RowIs W w.heap.size #[.int .i64 0, .int .i64 0] 47) := fun W hW => by
    have : RowIs W0 w.heap.size #[.int .i64 0, .int .i64 0] 47 := by rw [hW0]; exact RowIs.new _ _ _ _ (by simp)
    exact this.below hW
  cases c with
  | true =>
    have Hll : Hid (∀ W, Abv W0 W → Calls Tryz.prog 137 #[.int .i64 ll] W fun e w' => e = .returned (.int .i64 ((posN L true ll : Nat) : Int)) ∧ Below W.heap.size W w') := fun W hW => by rw [show posN L true ll = ll from rfl]; exact (posn1_any ll W).mono (by rintro e w1 ⟨rfl, rfl⟩; exact ⟨rfl, Below.refl _ _⟩)
    have Hac : Hid (∀ W, Abv W0 W → Calls Tryz.prog 137 #[.int .i64 ac] W fun e w' => e = .returned (.int .i64 ((posN L true ac : Nat) : Int)) ∧ Below W.heap.size W w') := fun W hW => by rw [show posN L true ac = ac from rfl]; exact (posn1_any ac W).mono (by rintro e w1 ⟨rfl, rfl⟩; exact ⟨rfl, Below.refl _ _⟩)
    have CF : Hid (∀ W, Abv W0 W → W.cell? ⟨pb, 0, none⟩ = some (.func (Fn.func 137) #[] #[]) ∧ W.cell? ⟨lb, 0, none⟩ = some (.int .i64 la) ∧ W.cell? ⟨ib, 0, none⟩ = some (.int .i64 i)) := by
      show ∀ W, _
      intro W hW
      have h := HE.out.keep (KeepP.below (bwStep HW0.out hW))
      have hI2 := HI.out.below (bwStep HW0.out hW)
      refine ⟨h.P.cell 0 _ rfl, ?_, hI2.cell 0 _ rfl⟩
      rw [hla]
      exact h.Q.cell 0 _ rfl
    rw [HX.out]
    have HPX : Hid (posN L true ll ≤ 200 ∧ posN L true ac ≤ 200) := by
      have := posN_lt hL hllB; have := posN_lt hL hacB; have := side_le (c := true) hL
      show _ ∧ _
      omega
    generalize posN L true ll = x at *
    generalize posN L true ac = y at *
    clear he hI hi hj hk hla hac hal hlc hll hi2 hli hacB halB hlcB hllB hb1 hb2 hB9 hL
    subst hW0
    go_enter Tryz.func97, Tryz.ntmps97
    go_wp2
    refine wp_region_S (S := (fun W => Abv (w.alloc (.cells #[.int .i64 0, .int .i64 0] 47)) W)) 14 (by kernel_rfl) (by kernel_rfl) (bwDrew (Below.refl _ _)) ?_
    simp only [List.take_succ_cons, List.take_zero, List.drop_succ_cons, List.drop_zero]
    repeat
      refine' wpHS_val rfl (fun W hW => ?_) ?_
      rotate_left
      · have hcf := CF.out W hW; go_simp; rfl
      simp only [Act.put, List.setIfInBounds_toArray, List.set_cons_zero, List.set_cons_succ]
    refine' wpHS_call rfl (fun W => ?_) (fun W hW => ?_) ?_
    rotate_left 3
    · go_simp; first | exact ⟨rfl, rfl⟩ | exact rfl
    · exact (Hll.out W hW).mono (fun e W1 h => ⟨h.1, bwStep hW h.2⟩)
    simp only [Act.put, List.setIfInBounds_toArray, List.set_cons_zero, List.set_cons_succ]
    repeat
      refine' wpHS_val rfl (fun W hW => ?_) ?_
      rotate_left
      · have hcf := CF.out W hW; go_simp; rfl
      simp only [Act.put, List.setIfInBounds_toArray, List.set_cons_zero, List.set_cons_succ]
    refine' wpHS_call rfl (fun W => ?_) (fun W hW => ?_) ?_
    rotate_left 3
    · go_simp; first | exact ⟨rfl, rfl⟩ | exact rfl
    · exact (Hac.out W hW).mono (fun e W1 h => ⟨h.1, bwStep hW h.2⟩)
    simp only [Act.put, List.setIfInBounds_toArray, List.set_cons_zero, List.set_cons_succ]
    refine wpHS_nil ?_
    intro w1 hb1
    have HB1 := Lib.hid hb1
    clear hb1
    have HRW := Lib.hid (HR.out _ HB1.out)
    have d0 : w1.cell? ⟨w.heap.size, 0, none⟩ = some (.int .i64 0) := HRW.out.cell 0 _ rfl
    have d1 : w1.cell? ⟨w.heap.size, 1, none⟩ = some (.int .i64 0) := HRW.out.cell 1 _ rfl
    have z0 : w1.frozen? ⟨w.heap.size, 0, none⟩ = false := frozen_of_row _ _ _ _ _ HRW.out
    have z1 : w1.frozen? ⟨w.heap.size, 1, none⟩ = false := frozen_of_row _ _ _ _ _ HRW.out
    have HBW : Hid (Below w.heap.size w w1) := bwStep HW0.out HB1.out
    go_wp2
    exact bodyPost_ret (v := .agg #[.int .i64 (x : Int), .int .i64 (y : Int)]) (by simp [results, Tryz.results97, go_sem, d0, d1, z0, z1]) rfl ⟨rfl, (HBW.out.setCell (by simp) _).setCell (by simp) _⟩
  | false =>
    have Hll : Hid (∀ W, Abv W0 W → Calls Tryz.prog 138 #[.int .i64 ll, .pointer (some ⟨hb, 0, none⟩), .pointer (some ⟨cb, 0, none⟩)] W fun e w' => e = .returned (.int .i64 ((posN L false ll : Nat) : Int)) ∧ Below W.heap.size W w') := fun W hW => (posn2_any L ll hb cb W hL hllB ((HE.out.keep (KeepP.below (bwStep HW0.out hW))).H rfl)).mono (by rintro e w1 ⟨rfl, rfl⟩; exact ⟨rfl, Below.refl _ _⟩)
    have Hac : Hid (∀ W, Abv W0 W → Calls Tryz.prog 138 #[.int .i64 ac, .pointer (some ⟨hb, 0, none⟩), .pointer (some ⟨cb, 0, none⟩)] W fun e w' => e = .returned (.int .i64 ((posN L false ac : Nat) : Int)) ∧ Below W.heap.size W w') := fun W hW => (posn2_any L ac hb cb W hL hacB ((HE.out.keep (KeepP.below (bwStep HW0.out hW))).H rfl)).mono (by rintro e w1 ⟨rfl, rfl⟩; exact ⟨rfl, Below.refl _ _⟩)
    have CF : Hid (∀ W, Abv W0 W → W.cell? ⟨pb, 0, none⟩ = some (.func (Fn.func 138) #[] #[.pointer (some ⟨hb, 0, none⟩), .pointer (some ⟨cb, 0, none⟩)]) ∧ W.cell? ⟨lb, 0, none⟩ = some (.int .i64 la) ∧ W.cell? ⟨ib, 0, none⟩ = some (.int .i64 i)) := by
      show ∀ W, _
      intro W hW
      have h := HE.out.keep (KeepP.below (bwStep HW0.out hW))
      have hI2 := HI.out.below (bwStep HW0.out hW)
      refine ⟨h.P.cell 0 _ rfl, ?_, hI2.cell 0 _ rfl⟩
      rw [hla]
      exact h.Q.cell 0 _ rfl
    rw [HX.out]
    have HPX : Hid (posN L false ll ≤ 200 ∧ posN L false ac ≤ 200) := by
      have := posN_lt hL hllB; have := posN_lt hL hacB; have := side_le (c := false) hL
      show _ ∧ _
      omega
    generalize posN L false ll = x at *
    generalize posN L false ac = y at *
    clear he hI hi hj hk hla hac hal hlc hll hi2 hli hacB halB hlcB hllB hb1 hb2 hB9 hL
    subst hW0
    go_enter Tryz.func97, Tryz.ntmps97
    go_wp2
    refine wp_region_S (S := (fun W => Abv (w.alloc (.cells #[.int .i64 0, .int .i64 0] 47)) W)) 14 (by kernel_rfl) (by kernel_rfl) (bwDrew (Below.refl _ _)) ?_
    simp only [List.take_succ_cons, List.take_zero, List.drop_succ_cons, List.drop_zero]
    repeat
      refine' wpHS_val rfl (fun W hW => ?_) ?_
      rotate_left
      · have hcf := CF.out W hW; go_simp; rfl
      simp only [Act.put, List.setIfInBounds_toArray, List.set_cons_zero, List.set_cons_succ]
    refine' wpHS_call rfl (fun W => ?_) (fun W hW => ?_) ?_
    rotate_left 3
    · go_simp; first | exact ⟨rfl, rfl⟩ | exact rfl
    · exact (Hll.out W hW).mono (fun e W1 h => ⟨h.1, bwStep hW h.2⟩)
    simp only [Act.put, List.setIfInBounds_toArray, List.set_cons_zero, List.set_cons_succ]
    repeat
      refine' wpHS_val rfl (fun W hW => ?_) ?_
      rotate_left
      · have hcf := CF.out W hW; go_simp; rfl
      simp only [Act.put, List.setIfInBounds_toArray, List.set_cons_zero, List.set_cons_succ]
    refine' wpHS_call rfl (fun W => ?_) (fun W hW => ?_) ?_
    rotate_left 3
    · go_simp; first | exact ⟨rfl, rfl⟩ | exact rfl
    · exact (Hac.out W hW).mono (fun e W1 h => ⟨h.1, bwStep hW h.2⟩)
    simp only [Act.put, List.setIfInBounds_toArray, List.set_cons_zero, List.set_cons_succ]
    refine wpHS_nil ?_
    intro w1 hb1
    have HB1 := Lib.hid hb1
    clear hb1
    have HRW := Lib.hid (HR.out _ HB1.out)
    have d0 : w1.cell? ⟨w.heap.size, 0, none⟩ = some (.int .i64 0) := HRW.out.cell 0 _ rfl
    have d1 : w1.cell? ⟨w.heap.size, 1, none⟩ = some (.int .i64 0) := HRW.out.cell 1 _ rfl
    have z0 : w1.frozen? ⟨w.heap.size, 0, none⟩ = false := frozen_of_row _ _ _ _ _ HRW.out
    have z1 : w1.frozen? ⟨w.heap.size, 1, none⟩ = false := frozen_of_row _ _ _ _ _ HRW.out
    have HBW : Hid (Below w.heap.size w w1) := bwStep HW0.out HB1.out
    go_wp2
    exact bodyPost_ret (v := .agg #[.int .i64 (x : Int), .int .i64 (y : Int)]) (by simp [results, Tryz.results97, go_sem, d0, d1, z0, z1]) rfl ⟨rfl, (HBW.out.setCell (by simp) _).setCell (by simp) _⟩
end Go.Proofs.YtmnlkganmgcpbaaGreatDoor
