import Derived.Test.YtmnlkganmgcpbaaGreatDoorQa9
namespace Go.Proofs.YtmnlkganmgcpbaaGreatDoor
open Go.RowKit Go.WideMaps Go.Maps
set_option linter.unusedVariables false
theorem SQ.made {X : World} {p : ByteArray} {cb hb n : Nat} {R : Array Value} (hC : MadeC X cb n) (hM : MapIs X hb 0 (fun _ _ => none)) (hn : n = p.size) (hp : p.size ≤ 4096)
    (h0 : R[0]? = some (.string p)) (h1 : ∀ i v, theTab[i]? = some v → R[1 + i]? = some v) (h2 : R[481]? = some (.slice (some ⟨cb, 0, none⟩) (n + 1) (n + 1))) (h3 : R[482]? = some (.map (some hb))) :
    SQ (X.alloc (.cells R 175)) X.heap.size cb (n + 1) hb p (fun _ _ => 0) ∧ MapIs (X.alloc (.cells R 175)) hb 0 (fun _ _ => none) := by
  have hM2 : MapIs (X.alloc (.cells R 175)) hb 0 (fun _ _ => none) := hM.below (bwA _ _)
  obtain ⟨cur, t, hh, hz⟩ := hC
  have hcl : cb < X.heap.size := lt_of_heap hh
  have hh2 : (X.alloc (.cells R 175)).heap[cb]? = some (.cells cur t (0, 0)) := (Below.heap_alloc X _ _ hcl).trans hh
  have hs : ∀ i, (X.alloc (.cells R 175)).cell? ⟨X.heap.size, i, none⟩ = R[i]? := fun i => World.cell?_alloc_at _ _ _ _ rfl
  have hmb : hb ≠ cb := by
    intro e
    obtain ⟨D, _, ⟨es, clock, h5, _⟩, _⟩ := hM
    rw [e, hh] at h5
    cases h5
  refine ⟨⟨⟨by simp, by rw [hs]; exact h0, fun i v hv => by rw [hs]; exact h1 i v hv, by rw [hs, ← hn]; exact h2, by rw [hs]; exact h3, by simp; omega, fun a m ha hm => ?_, by omega, hp, fun _ _ => Nat.zero_le _⟩, ⟨by simp; omega, fun i hi => frozen_of_row _ _ _ _ _ hh2⟩, by omega, by have := hM.lt; omega, hmb⟩, hM2⟩
  rw [cell_of_row _ _ _ _ _ _ hh2]
  exact hz _ (by omega)
theorem wpHX_makeC {ops : Array Oper} {S : World → Prop} {K : Act → World → Prop} {r : List (Bool × Nat × Oper)} {k : Nat} {o : Oper} {a : Act} {W : World} {l c : Operand} (hgd : Region.wanted o (yielded ops a.tmps) = true) (ho : o.op = .makeSlice 172 l c) (n : Nat) (hn : n ≤ 4096) (hl : a.eval l = .int .i64 ((n + 1 : Nat) : Int)) (hc : a.eval c = .int .i64 ((n + 1 : Nat) : Int))
    (hk : ∀ W', MadeC W' W.heap.size n → Below W.heap.size W W' → S W' ∧ wpHX Tryz.prog ops S K r (a.put o.dst (.slice (some ⟨W.heap.size, 0, none⟩) (n + 1) (n + 1))) W') : wpHX Tryz.prog ops S K ((true, k, o) :: r) a W := by
  obtain ⟨W', hrun, h1, h2⟩ := exec_makeC (a := a) ho n hn hl hc
  exact wpHX_aval hgd hrun (hk W' h1 h2).1 (hk W' h1 h2).2
theorem wpHX_makeM {ops : Array Oper} {S : World → Prop} {K : Act → World → Prop} {r : List (Bool × Nat × Oper)} {k : Nat} {o : Oper} {a : Act} {W : World} (hgd : Region.wanted o (yielded ops a.tmps) = true) (ho : o.op = .makeMap 173 none)
    (hk : ∀ W', MapIs W' W.heap.size 0 (fun _ _ => none) → Below W.heap.size W W' → S W' ∧ wpHX Tryz.prog ops S K r (a.put o.dst (.map (some W.heap.size))) W') : wpHX Tryz.prog ops S K ((true, k, o) :: r) a W := by
  obtain ⟨hrun, h1⟩ := exec_makeM (a := a) (W := W) ho
  exact wpHX_aval hgd hrun (hk _ h1 (bwA _ _)).1 (hk _ h1 (bwA _ _)).2
theorem exec_convP {p : ByteArray} {l : List UInt8} (hp : p = ⟨l.toArray⟩) {a : Act} {o : Oper} {W : World} {x : Operand} (ho : o.op = .convert 22 9 x) {A : Option Addr} {n c : Nat} (hx : a.eval x = .slice A n c) (h : SR vU 0 W A n c l) :
    (execOp a.eval o).run Tryz.prog W = .ok (.value (.string p)) W := by
  subst hp; exact exec_convB ho hx h
def PostNS (w : World) (p : ByteArray) (A : Option Addr) (n c : Nat) (a a' : Act) (W : World) : Prop := ∃ (sb cb hb : Nat) (R : Array Value),
  a' = ⟨#[.slice A n c, undef, .pointer none, .int .i64 (n : Int), .pointer (some ⟨sb, 0, none⟩), undef, .slice A n c, .int .i64 (n : Int), .slice A n c, .string p, .agg theTab, .int .i64 (n : Int), .int .i64 ((n + 1 : Nat) : Int), .slice (some ⟨cb, 0, none⟩) (n + 1) (n + 1), .map (some hb), .agg R, .pointer (some ⟨sb, 0, none⟩), undef, undef, undef, undef, undef, undef, undef, undef, undef, undef], []⟩ ∧
  SQ W sb cb (n + 1) hb p (fun _ _ => 0) ∧ MapIs W hb 0 (fun _ _ => none) ∧ Below w.heap.size w W ∧ w.heap.size ≤ sb ∧ w.heap.size ≤ cb ∧ w.heap.size ≤ hb
set_option maxRecDepth 100000 in
set_option maxHeartbeats 4000000 in
theorem newSearch_any (A : Option Addr) (n c : Nat) (l : List UInt8) (w : World) (hb : SR vU 0 w A n c l) (hn : n ≤ 4096) :
    Calls Tryz.prog 80 #[.slice A n c] w fun e w' => ∃ sb cb cap hb C T, e = .returned (.pointer (some ⟨sb, 0, none⟩)) ∧ SQ w' sb cb cap hb ⟨l.toArray⟩ C ∧ MapIs w' hb (5 * n) T ∧
      (∀ a, a < n → FixAt C ⟨l.toArray⟩ a ∧ ∀ m, T a m = stepF C ⟨l.toArray⟩ a m) ∧ (∀ a m, n ≤ a → C a m = 0) ∧ Below w.heap.size w w' := by
  obtain ⟨p, hpd⟩ : ∃ p : ByteArray, p = ⟨l.toArray⟩ := ⟨_, rfl⟩
  have hn2 : n = p.size := by rw [hb.hn, hpd]; show l.length = l.toArray.size; simp
  have hp : p.size ≤ 4096 := by omega
  rw [← hpd]
  have HPD := Lib.hid hpd
  have HB := Lib.hid hb
  have hw1 : IntKind.i64.wrap ((n : Int) + 1) = ((n + 1 : Nat) : Int) := by rw [wr64 _ (by omega) (by omega)]; omega
  have HN2 := Lib.hid hn2
  have HP := Lib.hid hp
  clear hb hpd hn2 hp
  go_enter Tryz.func80, Tryz.ntmps80
  go_wp2
  have HBW : Hid (Abv w w.drew) := bwDrew (Below.refl _ _)
  refine wp_region_TP (S := Abv w) (.br [(false, 0), (false, 1), (false, 3), (false, 4)] [2, 5, 6] (fun k => if k = 2 then .br [] [5, 6] (fun k => if k = 5 then .last [(true, 6), (false, 7), (true, 8), (false, 9)] else .last [(true, 5), (false, 7), (true, 8), (false, 9)]) else if k = 5 then .br [] [2, 6] (fun k => if k = 2 then .last [(true, 6), (false, 7), (true, 8), (false, 9)] else .last [(true, 2), (false, 7), (true, 8), (false, 9)]) else .br [] [2, 5] (fun k => if k = 2 then .last [(true, 5), (false, 7), (true, 8), (false, 9)] else .last [(true, 2), (false, 7), (true, 8), (false, 9)]))) (PostNS w p A n c) (by kernel_rfl) (by kernel_rfl) HBW.out ?_ ?_
  · simp only [wpTree, attachW, List.getElem?_cons_zero, List.getElem?_cons_succ]
    refine' wpHX_val rfl (fun W hW => ?_) ?_
    rotate_left
    · go_simp; rfl
    simp only [Act.put, List.setIfInBounds_toArray, List.set_cons_zero, List.set_cons_succ]
    refine' wpHX_val rfl (fun W hW => exec_convP HPD.out rfl rfl (HB.out.below hW)) ?_
    simp only [Act.put, List.setIfInBounds_toArray, List.set_cons_zero, List.set_cons_succ]
    refine' wpHX_val rfl (fun W hW => ?_) ?_
    rotate_left
    · go_simp; rfl
    simp only [Act.put, List.setIfInBounds_toArray, List.set_cons_zero, List.set_cons_succ]
    refine' wpHX_val rfl (fun W hW => ?_) ?_
    rotate_left
    · go_simp; rfl
    simp only [Act.put, List.setIfInBounds_toArray, List.set_cons_zero, List.set_cons_succ]
    refine wpHX_nil ?_
    intro k hk
    simp only [List.mem_cons, List.not_mem_nil, or_false] at hk
    rcases hk with rfl | rfl | rfl
    · simp only [reduceIte, Nat.reduceEqDiff, wpTree, attachW, List.getElem?_cons_zero, List.getElem?_cons_succ]
      refine' wpHX_acall rfl (fun W => ?_) ?_
      rotate_left 2
      · go_simp; exact ⟨rfl, rfl⟩
      refine (table_any _).mono ?_
      rintro e U1 ⟨rfl, hb1⟩
      have HB1 : Hid (Abv w U1) := bwStep HBW.out hb1
      refine ⟨_, rfl, HB1.out, ?_⟩
      simp only [Act.put, List.setIfInBounds_toArray, List.set_cons_zero, List.set_cons_succ]
      refine wpHX_nil ?_
      (try simp only [reduceIte, Nat.reduceEqDiff, wpTree, attachW, List.getElem?_cons_zero, List.getElem?_cons_succ])
      refine wpHX_nil ?_
      intro k hk
      simp only [List.mem_cons, List.not_mem_nil, or_false] at hk
      rcases hk with rfl | rfl
      · simp only [reduceIte, wpTree, attachW, List.getElem?_cons_zero, List.getElem?_cons_succ]
        refine' wpHX_makeC rfl rfl n hn rfl rfl ?_
        intro U2 hc2 hb2
        have HB2 : Hid (Abv w U2) := bwStep HB1.out hb2
        have HC2 := Lib.hid hc2
        refine ⟨HB2.out, ?_⟩
        simp only [Act.put, List.setIfInBounds_toArray, List.set_cons_zero, List.set_cons_succ]
        refine wpHX_nil ?_
        (try simp only [reduceIte, Nat.reduceEqDiff, wpTree, attachW, List.getElem?_cons_zero, List.getElem?_cons_succ])
        refine' wpHX_makeM rfl rfl ?_
        intro U3 hm3 hb3
        have HB3 : Hid (Abv w U3) := bwStep HB2.out hb3
        have HC3 := Lib.hid (HC2.out.below hb3)
        have HM3 := Lib.hid hm3
        refine ⟨HB3.out, ?_⟩
        simp only [Act.put, List.setIfInBounds_toArray, List.set_cons_zero, List.set_cons_succ]
        obtain ⟨R, hR, hR1, hR2, hR3, hR4, hR5⟩ := built_search p (.slice (some ⟨_, 0, none⟩) (n + 1) (n + 1)) (.map (some _)) rfl rfl
        refine' wpHX_val rfl (fun W hW => exec_buildS rfl rfl rfl rfl rfl R hR) ?_
        simp only [Act.put, List.setIfInBounds_toArray, List.set_cons_zero, List.set_cons_succ]
        refine' wpHX_aval rfl (exec_boxS rfl rfl) (bwAlloc HB3.out _) ?_
        simp only [Act.put, List.setIfInBounds_toArray, List.set_cons_zero, List.set_cons_succ]
        refine' wpHX_val rfl (fun W hW => ?_) ?_
        rotate_left
        · go_simp; rfl
        simp only [Act.put, List.setIfInBounds_toArray, List.set_cons_zero, List.set_cons_succ]
        refine wpHX_nil ?_
        exact ⟨U3.heap.size, U1.heap.size, U2.heap.size, R, rfl, (SQ.made HC3.out HM3.out HN2.out HP.out hR2 hR3 hR4 hR5).1, (SQ.made HC3.out HM3.out HN2.out HP.out hR2 hR3 hR4 hR5).2, bwAlloc HB3.out _, HB3.out.size, HB1.out.size, HB2.out.size⟩
      · simp only [reduceIte, Nat.reduceEqDiff, wpTree, attachW, List.getElem?_cons_zero, List.getElem?_cons_succ]
        refine' wpHX_makeM rfl rfl ?_
        intro U4 hm4 hb4
        have HB4 : Hid (Abv w U4) := bwStep HB1.out hb4
        have HM4 := Lib.hid hm4
        refine ⟨HB4.out, ?_⟩
        simp only [Act.put, List.setIfInBounds_toArray, List.set_cons_zero, List.set_cons_succ]
        refine wpHX_nil ?_
        (try simp only [reduceIte, Nat.reduceEqDiff, wpTree, attachW, List.getElem?_cons_zero, List.getElem?_cons_succ])
        refine' wpHX_makeC rfl rfl n hn rfl rfl ?_
        intro U5 hc5 hb5
        have HB5 : Hid (Abv w U5) := bwStep HB4.out hb5
        have HM5 := Lib.hid (HM4.out.below hb5)
        have HC5 := Lib.hid hc5
        refine ⟨HB5.out, ?_⟩
        simp only [Act.put, List.setIfInBounds_toArray, List.set_cons_zero, List.set_cons_succ]
        obtain ⟨R, hR, hR1, hR2, hR3, hR4, hR5⟩ := built_search p (.slice (some ⟨_, 0, none⟩) (n + 1) (n + 1)) (.map (some _)) rfl rfl
        refine' wpHX_val rfl (fun W hW => exec_buildS rfl rfl rfl rfl rfl R hR) ?_
        simp only [Act.put, List.setIfInBounds_toArray, List.set_cons_zero, List.set_cons_succ]
        refine' wpHX_aval rfl (exec_boxS rfl rfl) (bwAlloc HB5.out _) ?_
        simp only [Act.put, List.setIfInBounds_toArray, List.set_cons_zero, List.set_cons_succ]
        refine' wpHX_val rfl (fun W hW => ?_) ?_
        rotate_left
        · go_simp; rfl
        simp only [Act.put, List.setIfInBounds_toArray, List.set_cons_zero, List.set_cons_succ]
        refine wpHX_nil ?_
        exact ⟨U5.heap.size, U4.heap.size, U1.heap.size, R, rfl, (SQ.made HC5.out HM5.out HN2.out HP.out hR2 hR3 hR4 hR5).1, (SQ.made HC5.out HM5.out HN2.out HP.out hR2 hR3 hR4 hR5).2, bwAlloc HB5.out _, HB5.out.size, HB4.out.size, HB1.out.size⟩
    · simp only [reduceIte, Nat.reduceEqDiff, wpTree, attachW, List.getElem?_cons_zero, List.getElem?_cons_succ]
      refine' wpHX_makeC rfl rfl n hn rfl rfl ?_
      intro U6 hc6 hb6
      have HB6 : Hid (Abv w U6) := bwStep HBW.out hb6
      have HC6 := Lib.hid hc6
      refine ⟨HB6.out, ?_⟩
      simp only [Act.put, List.setIfInBounds_toArray, List.set_cons_zero, List.set_cons_succ]
      refine wpHX_nil ?_
      (try simp only [reduceIte, Nat.reduceEqDiff, wpTree, attachW, List.getElem?_cons_zero, List.getElem?_cons_succ])
      refine wpHX_nil ?_
      intro k hk
      simp only [List.mem_cons, List.not_mem_nil, or_false] at hk
      rcases hk with rfl | rfl
      · simp only [reduceIte, wpTree, attachW, List.getElem?_cons_zero, List.getElem?_cons_succ]
        refine' wpHX_acall rfl (fun W => ?_) ?_
        rotate_left 2
        · go_simp; exact ⟨rfl, rfl⟩
        refine (table_any _).mono ?_
        rintro e U7 ⟨rfl, hb7⟩
        have HB7 : Hid (Abv w U7) := bwStep HB6.out hb7
        have HC7 := Lib.hid (HC6.out.below hb7)
        refine ⟨_, rfl, HB7.out, ?_⟩
        simp only [Act.put, List.setIfInBounds_toArray, List.set_cons_zero, List.set_cons_succ]
        refine wpHX_nil ?_
        (try simp only [reduceIte, Nat.reduceEqDiff, wpTree, attachW, List.getElem?_cons_zero, List.getElem?_cons_succ])
        refine' wpHX_makeM rfl rfl ?_
        intro U8 hm8 hb8
        have HB8 : Hid (Abv w U8) := bwStep HB7.out hb8
        have HC8 := Lib.hid (HC7.out.below hb8)
        have HM8 := Lib.hid hm8
        refine ⟨HB8.out, ?_⟩
        simp only [Act.put, List.setIfInBounds_toArray, List.set_cons_zero, List.set_cons_succ]
        obtain ⟨R, hR, hR1, hR2, hR3, hR4, hR5⟩ := built_search p (.slice (some ⟨_, 0, none⟩) (n + 1) (n + 1)) (.map (some _)) rfl rfl
        refine' wpHX_val rfl (fun W hW => exec_buildS rfl rfl rfl rfl rfl R hR) ?_
        simp only [Act.put, List.setIfInBounds_toArray, List.set_cons_zero, List.set_cons_succ]
        refine' wpHX_aval rfl (exec_boxS rfl rfl) (bwAlloc HB8.out _) ?_
        simp only [Act.put, List.setIfInBounds_toArray, List.set_cons_zero, List.set_cons_succ]
        refine' wpHX_val rfl (fun W hW => ?_) ?_
        rotate_left
        · go_simp; rfl
        simp only [Act.put, List.setIfInBounds_toArray, List.set_cons_zero, List.set_cons_succ]
        refine wpHX_nil ?_
        exact ⟨U8.heap.size, w.drew.heap.size, U7.heap.size, R, rfl, (SQ.made HC8.out HM8.out HN2.out HP.out hR2 hR3 hR4 hR5).1, (SQ.made HC8.out HM8.out HN2.out HP.out hR2 hR3 hR4 hR5).2, bwAlloc HB8.out _, HB8.out.size, HBW.out.size, HB7.out.size⟩
      · simp only [reduceIte, Nat.reduceEqDiff, wpTree, attachW, List.getElem?_cons_zero, List.getElem?_cons_succ]
        refine' wpHX_makeM rfl rfl ?_
        intro U9 hm9 hb9
        have HB9 : Hid (Abv w U9) := bwStep HB6.out hb9
        have HC9 := Lib.hid (HC6.out.below hb9)
        have HM9 := Lib.hid hm9
        refine ⟨HB9.out, ?_⟩
        simp only [Act.put, List.setIfInBounds_toArray, List.set_cons_zero, List.set_cons_succ]
        refine wpHX_nil ?_
        (try simp only [reduceIte, Nat.reduceEqDiff, wpTree, attachW, List.getElem?_cons_zero, List.getElem?_cons_succ])
        refine' wpHX_acall rfl (fun W => ?_) ?_
        rotate_left 2
        · go_simp; exact ⟨rfl, rfl⟩
        refine (table_any _).mono ?_
        rintro e U10 ⟨rfl, hb10⟩
        have HB10 : Hid (Abv w U10) := bwStep HB9.out hb10
        have HC10 := Lib.hid (HC9.out.below hb10)
        have HM10 := Lib.hid (HM9.out.below hb10)
        refine ⟨_, rfl, HB10.out, ?_⟩
        simp only [Act.put, List.setIfInBounds_toArray, List.set_cons_zero, List.set_cons_succ]
        obtain ⟨R, hR, hR1, hR2, hR3, hR4, hR5⟩ := built_search p (.slice (some ⟨_, 0, none⟩) (n + 1) (n + 1)) (.map (some _)) rfl rfl
        refine' wpHX_val rfl (fun W hW => exec_buildS rfl rfl rfl rfl rfl R hR) ?_
        simp only [Act.put, List.setIfInBounds_toArray, List.set_cons_zero, List.set_cons_succ]
        refine' wpHX_aval rfl (exec_boxS rfl rfl) (bwAlloc HB10.out _) ?_
        simp only [Act.put, List.setIfInBounds_toArray, List.set_cons_zero, List.set_cons_succ]
        refine' wpHX_val rfl (fun W hW => ?_) ?_
        rotate_left
        · go_simp; rfl
        simp only [Act.put, List.setIfInBounds_toArray, List.set_cons_zero, List.set_cons_succ]
        refine wpHX_nil ?_
        exact ⟨U10.heap.size, w.drew.heap.size, U6.heap.size, R, rfl, (SQ.made HC10.out HM10.out HN2.out HP.out hR2 hR3 hR4 hR5).1, (SQ.made HC10.out HM10.out HN2.out HP.out hR2 hR3 hR4 hR5).2, bwAlloc HB10.out _, HB10.out.size, HBW.out.size, HB6.out.size⟩
    · simp only [reduceIte, Nat.reduceEqDiff, wpTree, attachW, List.getElem?_cons_zero, List.getElem?_cons_succ]
      refine' wpHX_makeM rfl rfl ?_
      intro U11 hm11 hb11
      have HB11 : Hid (Abv w U11) := bwStep HBW.out hb11
      have HM11 := Lib.hid hm11
      refine ⟨HB11.out, ?_⟩
      simp only [Act.put, List.setIfInBounds_toArray, List.set_cons_zero, List.set_cons_succ]
      refine wpHX_nil ?_
      (try simp only [reduceIte, Nat.reduceEqDiff, wpTree, attachW, List.getElem?_cons_zero, List.getElem?_cons_succ])
      refine wpHX_nil ?_
      intro k hk
      simp only [List.mem_cons, List.not_mem_nil, or_false] at hk
      rcases hk with rfl | rfl
      · simp only [reduceIte, wpTree, attachW, List.getElem?_cons_zero, List.getElem?_cons_succ]
        refine' wpHX_acall rfl (fun W => ?_) ?_
        rotate_left 2
        · go_simp; exact ⟨rfl, rfl⟩
        refine (table_any _).mono ?_
        rintro e U12 ⟨rfl, hb12⟩
        have HB12 : Hid (Abv w U12) := bwStep HB11.out hb12
        have HM12 := Lib.hid (HM11.out.below hb12)
        refine ⟨_, rfl, HB12.out, ?_⟩
        simp only [Act.put, List.setIfInBounds_toArray, List.set_cons_zero, List.set_cons_succ]
        refine wpHX_nil ?_
        (try simp only [reduceIte, Nat.reduceEqDiff, wpTree, attachW, List.getElem?_cons_zero, List.getElem?_cons_succ])
        refine' wpHX_makeC rfl rfl n hn rfl rfl ?_
        intro U13 hc13 hb13
        have HB13 : Hid (Abv w U13) := bwStep HB12.out hb13
        have HM13 := Lib.hid (HM12.out.below hb13)
        have HC13 := Lib.hid hc13
        refine ⟨HB13.out, ?_⟩
        simp only [Act.put, List.setIfInBounds_toArray, List.set_cons_zero, List.set_cons_succ]
        obtain ⟨R, hR, hR1, hR2, hR3, hR4, hR5⟩ := built_search p (.slice (some ⟨_, 0, none⟩) (n + 1) (n + 1)) (.map (some _)) rfl rfl
        refine' wpHX_val rfl (fun W hW => exec_buildS rfl rfl rfl rfl rfl R hR) ?_
        simp only [Act.put, List.setIfInBounds_toArray, List.set_cons_zero, List.set_cons_succ]
        refine' wpHX_aval rfl (exec_boxS rfl rfl) (bwAlloc HB13.out _) ?_
        simp only [Act.put, List.setIfInBounds_toArray, List.set_cons_zero, List.set_cons_succ]
        refine' wpHX_val rfl (fun W hW => ?_) ?_
        rotate_left
        · go_simp; rfl
        simp only [Act.put, List.setIfInBounds_toArray, List.set_cons_zero, List.set_cons_succ]
        refine wpHX_nil ?_
        exact ⟨U13.heap.size, U12.heap.size, w.drew.heap.size, R, rfl, (SQ.made HC13.out HM13.out HN2.out HP.out hR2 hR3 hR4 hR5).1, (SQ.made HC13.out HM13.out HN2.out HP.out hR2 hR3 hR4 hR5).2, bwAlloc HB13.out _, HB13.out.size, HB12.out.size, HBW.out.size⟩
      · simp only [reduceIte, Nat.reduceEqDiff, wpTree, attachW, List.getElem?_cons_zero, List.getElem?_cons_succ]
        refine' wpHX_makeC rfl rfl n hn rfl rfl ?_
        intro U14 hc14 hb14
        have HB14 : Hid (Abv w U14) := bwStep HB11.out hb14
        have HM14 := Lib.hid (HM11.out.below hb14)
        have HC14 := Lib.hid hc14
        refine ⟨HB14.out, ?_⟩
        simp only [Act.put, List.setIfInBounds_toArray, List.set_cons_zero, List.set_cons_succ]
        refine wpHX_nil ?_
        (try simp only [reduceIte, Nat.reduceEqDiff, wpTree, attachW, List.getElem?_cons_zero, List.getElem?_cons_succ])
        refine' wpHX_acall rfl (fun W => ?_) ?_
        rotate_left 2
        · go_simp; exact ⟨rfl, rfl⟩
        refine (table_any _).mono ?_
        rintro e U15 ⟨rfl, hb15⟩
        have HB15 : Hid (Abv w U15) := bwStep HB14.out hb15
        have HC15 := Lib.hid (HC14.out.below hb15)
        have HM15 := Lib.hid (HM14.out.below hb15)
        refine ⟨_, rfl, HB15.out, ?_⟩
        simp only [Act.put, List.setIfInBounds_toArray, List.set_cons_zero, List.set_cons_succ]
        obtain ⟨R, hR, hR1, hR2, hR3, hR4, hR5⟩ := built_search p (.slice (some ⟨_, 0, none⟩) (n + 1) (n + 1)) (.map (some _)) rfl rfl
        refine' wpHX_val rfl (fun W hW => exec_buildS rfl rfl rfl rfl rfl R hR) ?_
        simp only [Act.put, List.setIfInBounds_toArray, List.set_cons_zero, List.set_cons_succ]
        refine' wpHX_aval rfl (exec_boxS rfl rfl) (bwAlloc HB15.out _) ?_
        simp only [Act.put, List.setIfInBounds_toArray, List.set_cons_zero, List.set_cons_succ]
        refine' wpHX_val rfl (fun W hW => ?_) ?_
        rotate_left
        · go_simp; rfl
        simp only [Act.put, List.setIfInBounds_toArray, List.set_cons_zero, List.set_cons_succ]
        refine wpHX_nil ?_
        exact ⟨U15.heap.size, U11.heap.size, w.drew.heap.size, R, rfl, (SQ.made HC15.out HM15.out HN2.out HP.out hR2 hR3 hR4 hR5).1, (SQ.made HC15.out HM15.out HN2.out HP.out hR2 hR3 hR4 hR5).2, bwAlloc HB15.out _, HB15.out.size, HB11.out.size, HBW.out.size⟩
  · rintro a' W ⟨sb, cb, hb, R, rfl, hQ, hM, hBW, h1, h2, h3⟩
    have HQ := Lib.hid hQ
    have HM := Lib.hid hM
    have HBW2 := Lib.hid hBW
    have HN3 : Hid (w.heap.size ≤ sb ∧ w.heap.size ≤ cb ∧ w.heap.size ≤ hb) := ⟨h1, h2, h3⟩
    clear hQ hM hBW h1 h2 h3
    generalize ((n + 1 : Nat) : Int) = z12
    go_wp2
    go_loopw [5] (fun iv wr => ∃ (k : Nat) (j : Int) (C : Nat → Nat → Nat) (T : Nat → Nat → Option Opt), k ≤ n ∧ iv = .int .i64 j ∧ Hid (j = (n : Int) - 1 - k) ∧ Hid (SQ wr sb cb (n + 1) hb p C) ∧ Hid (MapIs wr hb (5 * k) T) ∧ Hid (Below w.heap.size w wr) ∧
      Hid (∀ a, n ≤ a + k → a < n → FixAt C p a ∧ ∀ m, T a m = stepF C p a m) ∧ Hid (∀ a m, n ≤ a → C a m = 0)) (fun iv _ => (intOf iv + 1).toNat)
    case atStart => exact ⟨0, _, _, _, Nat.zero_le _, rfl, by show _ = _; omega, HQ.out, HM.out, HBW2.out, fun a h1 h2 => by omega, fun _ _ _ => rfl⟩
    case round =>
      clear HQ HM HBW2
      obtain ⟨k, j, C, T, hk, rfl, hj, hQ, hM, hW, hF, hZ⟩ := hrel
      by_cases hlt : k < n
      · obtain ⟨i, hi1⟩ : ∃ i, i = n - 1 - k := ⟨_, rfl⟩
        obtain rfl : j = (i : Int) := by have := hj.out; omega
        have HI := Lib.hid hi1
        have hi2 : i ≤ 4096 := by omega
        have hi3 : i < p.size := by have := HN2.out; omega
        clear hi1
        go_wp2_with (go_at_call 130; refine (settle_any i wr w.heap.size sb cb (n + 1) hb (5 * k) p C T hQ.out hM.out hi3 HN3.out (by omega)).mono ?_; rintro e w6 ⟨rfl, C', hq6, hs6, hm6, hb6⟩; have HQ6 := Lib.hid hq6; have HS6 := Lib.hid hs6; have HM6 := Lib.hid hm6; have HB6 := Lib.hid hb6; clear hq6 hs6 hm6 hb6)
        have hoff := HS6.out.1
        refine ⟨⟨k + 1, _, C', _, by omega, rfl, by have := HI.out; show _ = _; omega, HQ6.out, HM6.out, hW.out.trans HB6.out, ?_, ?_⟩, by simp [intOf]⟩
        · show ∀ a, _
          intro a h1 h2
          by_cases e : a = i
          · subst e
            exact ⟨HS6.out.fix, fun m => if_pos rfl⟩
          · obtain ⟨h5, h6⟩ := hF.out a (by have := HI.out; omega) h2
            have hc : ∀ a' m, a ≤ a' → C' a' m = C a' m := fun a' m ha => hoff a' m (by have := HI.out; omega)
            exact ⟨h5.congr hc, fun m => by rw [if_neg e, h6 m, stepF.congr hc]⟩
        · show ∀ a m, _
          intro a m ha
          rw [hoff a m (by have := HI.out; omega)]
          exact hZ.out a m ha
      · have hk2 : k = n := by omega
        have hj0 : decide ((0 : Int) ≤ j) = false := by have := hj.out; simp; omega
        have HR : Hid (SQ wr sb cb (n + 1) hb p C ∧ MapIs wr hb (5 * n) T ∧ (∀ a, a < n → FixAt C p a ∧ ∀ m, T a m = stepF C p a m) ∧ (∀ a m, n ≤ a → C a m = 0) ∧ Below w.heap.size w wr) := by
          have h9 := hM.out
          rw [hk2] at h9
          exact ⟨hQ.out, h9, fun a ha => hF.out a (by omega) ha, hZ.out, hW.out⟩
        clear hQ hM hW hF hZ
        go_wp2
        go_ret
        exact ⟨sb, cb, n + 1, hb, C, T, rfl, HR.out⟩
end Go.Proofs.YtmnlkganmgcpbaaGreatDoor
namespace Go.Proofs.YtmnlkganmgcpbaaGreatDoor
open Go.RowKit Go.WideMaps Go.Maps
set_option linter.unusedVariables false
def notBits : Obj → Bool
  | .cells _ t _ => !(t == 4) && !(t == 26)
  | _ => true
def KeepO (w w' : World) : Prop := ∀ (k : Nat) (o : Obj), w.heap[k]? = some o → notBits o = true → w'.heap[k]? = some o
theorem KeepO.trans {a b c : World} (h : KeepO a b) (h2 : KeepO b c) : KeepO a c := fun k o h3 h4 => h2 k o (h k o h3 h4) h4
theorem KeepO.below {w W : World} (h : Below w.heap.size w W) : KeepO w W := fun k o h1 _ => (h.block k (lt_of_heap h1)).trans h1
theorem RowIs.keep {w w' : World} {g : Nat} {cur : Array Value} {t : TypeId} (h : RowIs w g cur t) (hk : KeepO w w') (ht : notBits (.cells cur t (0, 0)) = true) : RowIs w' g cur t := hk g _ h ht
theorem RowIs.setc {w : World} {g i : Nat} {cur : Array Value} {t : TypeId} (h : RowIs w g cur t) (u : Value) : RowIs (w.setCell ⟨g, i, none⟩ u) g (cur.setIfInBounds i u) t := heap_setCell_same w g i cur t u h
structure BO (n : Nat) (w wr : World) (bb : Nat) (bs : List Bool) : Prop where
  B : Below n w wr
  X : ∃ A c, RowIs wr bb #[.slice A bs.length c] 26 ∧ wr.ownsRow n 4 1 (.slice A bs.length c) bs.length (bs.map vB)
  n1 : n ≤ bb
  n2 : n ≤ wr.heap.size
theorem BO.below {n : Nat} {w wr W : World} {bb : Nat} {bs : List Bool} (h : BO n w wr bb bs) (hW : Below wr.heap.size wr W) : BO n w W bb bs := by
  obtain ⟨A, c, h1, h2⟩ := h.X
  exact ⟨h.B.trans (hW.mono h.n2), ⟨A, c, h1.below hW, ownsRow_below h2 hW⟩, h.n1, Nat.le_trans h.n2 hW.size⟩
theorem own_ne {n : Nat} {w : World} {bb q : Nat} {u : Value} {v : Value} {k : Nat} {xs : List Value} (h1 : RowIs w bb #[u] 26) (h2 : w.ownsRow n 4 1 v k xs) (hq : v.ownBlock = some q) : q ≠ bb := by
  rcases h2.2 with ⟨rfl, _⟩ | ⟨g, cap, cur, rfl, _, hg, _⟩
  · cases hq
  · simp only [Value.ownBlock, Option.some.injEq] at hq
    subst hq
    intro e
    subst e
    unfold RowIs at h1
    rw [h1] at hg
    injection hg with hg
    injection hg with _ e _
    exact absurd e (by decide)
theorem KeepO.grown {n : Nat} {w W : World} {v : Value} {k : Nat} {xs : List Value} (h : w.ownsRow n 4 1 v k xs) (hg : w.grownBy W v.ownBlock) : KeepO w W := by
  intro q o ho hn
  refine (hg.block q (lt_of_heap ho) ?_).trans ho
  intro e
  rcases h.2 with ⟨rfl, _⟩ | ⟨g, cap, cur, rfl, _, hh, _⟩
  · cases e
  · simp only [Value.ownBlock, Option.some.injEq] at e
    subst e
    rw [hh] at ho
    injection ho with ho
    subst ho
    exact absurd hn (by simp [notBits])
theorem KeepO.setc {w : World} {g i : Nat} {cur : Array Value} (h : RowIs w g cur 26) (u : Value) : KeepO w (w.setCell ⟨g, i, none⟩ u) := by
  intro q o ho hn
  refine (Below.heap_setCell _ _ _ _ ?_).trans ho
  intro e
  subst e
  unfold RowIs at h
  rw [h] at ho
  injection ho with ho
  subst ho
  exact absurd hn (by simp [notBits])
set_option maxRecDepth 100000 in
set_option maxHeartbeats 2000000 in
theorem add_any (n : Nat) (w0 w : World) (bb : Nat) (bs : List Bool) (v k : Nat) (h : BO n w0 w bb bs) (hv : v ≤ 1000000000000) (hk : k ≤ 62) (hl : bs.length ≤ 4000000000) :
    Calls Tryz.prog 131 #[.int .i64 (v : Int), .int .i64 (k : Int), .pointer (some ⟨bb, 0, none⟩)] w fun e w' => e = .returned (.tuple #[]) ∧ BO n w0 w' bb (bs ++ lowB v k) ∧ KeepO w w' := by
  obtain ⟨i0, hi, hz0, hz1, hz2⟩ := info_parts boolInfo
  obtain ⟨A, c, hX, hO⟩ := h.X
  have HX := Lib.hid hX
  have HO := Lib.hid hO
  have HB := Lib.hid h.B
  have HN : Hid (n ≤ bb ∧ n ≤ w.heap.size) := ⟨h.n1, h.n2⟩
  have HLB := Lib.hid (lowB_length v k)
  clear h hX hO
  go_enter Tryz.func131, Tryz.ntmps131
  go_wp2_with (first
    | (go_at_call 59; refine (Append0_any v k _ hv hk).mono ?_; rintro e w4 ⟨v4, rfl, hs4, hb4⟩; obtain ⟨A4, n4, c4, rfl, hr4⟩ := hs4.parts; have HB4 := Lib.hid hb4; have HR4 := Lib.hid hr4; have HX4 := Lib.hid (HX.out.below hb4); have HO4 := Lib.hid (ownsRow_below HO.out hb4); have f0 : w4.cell? ⟨bb, 0, none⟩ = some (.slice A bs.length c) := HX4.out.cell 0 _ rfl; clear hs4 hb4 hr4)
    | (at_builtin; refine wpList_append_G (f := vB) (d := false) oneB rfl _ _ _ rfl n 4 i0 _ 1 Tryz.underlying26 hi hz0 hz1 hz2 rfl _ bs.length bs rfl HO4.out A4 n4 c4 (lowB v k) rfl HR4.out.hn HR4.out.rd (by have := HR4.out.hn; have := HLB.out; unfold maxLen; omega) (by have := HR4.out.hn; have := HLB.out; omega) (Nat.le_trans HN.out.2 HB4.out.size) ?_; intro v5 w5 hown hg; obtain ⟨A5, c5, rfl⟩ := ownsRow_shape hown; have HG5 := Lib.hid hg; have HO5 := Lib.hid hown; have HX5 : Hid (RowIs w5 bb #[.slice A bs.length c] 26) := (hg.block bb (lt_of_heap HX4.out) (fun e => own_ne HX4.out HO4.out e.symm rfl)).trans HX4.out; have f1 : w5.cell? ⟨bb, 0, none⟩ = some (.slice A bs.length c) := HX5.out.cell 0 _ rfl; have f2 : w5.frozen? ⟨bb, 0, none⟩ = false := frozen_of_row _ _ _ _ _ HX5.out; clear hown hg))
  refine bodyPost_end (results_none rfl _ _ _) rfl ?_
  have hn4 := HR4.out.hn
  refine ⟨rfl, ⟨?_, ⟨A5, c5, ?_, ?_⟩, HN.out.1, ?_⟩, ?_⟩
  · have hb1 : Below n w0 w4 := HB.out.trans (HB4.out.mono HN.out.2)
    have hb2 : Below n w0 w5 := hb1.grown HG5.out (Nat.le_trans HN.out.2 HB4.out.size) (fun q hq => (HO4.out.lt q hq).1)
    exact hb2.setCell (by exact HN.out.1) _
  · have h9 := HX5.out.setc (i := 0) (.slice A5 (bs.length + n4) c5)
    rw [List.length_append, ← hn4]
    exact h9
  · have h9 := HO5.out
    rw [List.length_append, ← hn4]
    refine ⟨h9.1, ?_⟩
    rcases h9.2 with h2 | ⟨g, cap, cur, h1, h2, h3, h4⟩
    · exact .inl h2
    · refine .inr ⟨g, cap, cur, h1, h2, (Below.heap_setCell _ _ _ _ ?_).trans h3, h4⟩
      exact own_ne HX5.out HO5.out (by rw [h1]; rfl)
  · have e1 : (w5.setCell ⟨bb, 0, none⟩ (.slice A5 (bs.length + n4) c5)).heap.size = w5.heap.size := by simp
    rw [e1]
    exact Nat.le_trans (Nat.le_trans HN.out.2 HB4.out.size) HG5.out.size
  · exact (KeepO.below HB4.out).trans ((KeepO.grown HO4.out HG5.out).trans (KeepO.setc HX5.out _))
end Go.Proofs.YtmnlkganmgcpbaaGreatDoor
