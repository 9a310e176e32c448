import Derived.Test.YtplppbfnlfehnaaDoorAztR
namespace Go.Proofs.YtplppbfnlfehnaaDoor
open Go.RowKit Go.WideMaps Go.Maps
set_option linter.unusedVariables false
theorem SQ.made {X : World} {p : ByteArray} {cb hb n : Nat} {R : Array Value} (hC : MadeC X cb n) (hM : MapIs X hb 0 (fun _ _ => none)) (hn : n = p.size) (hp : p.size ≤ 4096)
    (h0 : R[0]? = some (.string p)) (h1 : ∀ i v, theTab[i]? = some v → R[1 + i]? = some v) (h2 : R[481]? = some (.slice (some ⟨cb, 0, none⟩) (n + 1) (n + 1))) (h3 : R[482]? = some (.map (some hb))) :
    SQ (X.alloc (.cells R 68)) X.heap.size cb (n + 1) hb p (fun _ _ => 0) ∧ MapIs (X.alloc (.cells R 68)) hb 0 (fun _ _ => none) := by
  have hM2 : MapIs (X.alloc (.cells R 68)) hb 0 (fun _ _ => none) := hM.below (bwA _ _)
  obtain ⟨cur, t, hh, hz⟩ := hC
  have hcl : cb < X.heap.size := lt_of_heap hh
  have hh2 : (X.alloc (.cells R 68)).heap[cb]? = some (.cells cur t (0, 0)) := (Below.heap_alloc X _ _ hcl).trans hh
  have hs : ∀ i, (X.alloc (.cells R 68)).cell? ⟨X.heap.size, i, none⟩ = R[i]? := fun i => World.cell?_alloc_at _ _ _ _ rfl
  have hmb : hb ≠ cb := by
    intro e
    obtain ⟨D, _, ⟨es, clock, h5, _⟩, _⟩ := hM
    rw [e, hh] at h5
    cases h5
  refine ⟨⟨⟨by simp, by rw [hs]; exact h0, fun i v hv => by rw [hs]; exact h1 i v hv, by rw [hs, ← hn]; exact h2, by rw [hs]; exact h3, by simp; omega, fun a m ha hm => ?_, by omega, hp, fun _ _ => Nat.zero_le _⟩, ⟨by simp; omega, fun i hi => frozen_of_row _ _ _ _ _ hh2⟩, by omega, by have := hM.lt; omega, hmb⟩, hM2⟩
  rw [cell_of_row _ _ _ _ _ _ hh2]
  exact hz _ (by omega)
theorem wpHX_makeC {ops : Array Oper} {S : World → Prop} {K : Act → World → Prop} {r : List (Bool × Nat × Oper)} {k : Nat} {o : Oper} {a : Act} {W : World} {l c : Operand} (hgd : Region.wanted o (yielded ops a.tmps) = true) (ho : o.op = .makeSlice 65 l c) (n : Nat) (hn : n ≤ 4096) (hl : a.eval l = .int .i64 ((n + 1 : Nat) : Int)) (hc : a.eval c = .int .i64 ((n + 1 : Nat) : Int))
    (hk : ∀ W', MadeC W' W.heap.size n → Below W.heap.size W W' → S W' ∧ wpHX Tryd.prog ops S K r (a.put o.dst (.slice (some ⟨W.heap.size, 0, none⟩) (n + 1) (n + 1))) W') : wpHX Tryd.prog ops S K ((true, k, o) :: r) a W := by
  obtain ⟨W', hrun, h1, h2⟩ := exec_makeC (a := a) ho n hn hl hc
  exact wpHX_aval hgd hrun (hk W' h1 h2).1 (hk W' h1 h2).2
theorem wpHX_makeM {ops : Array Oper} {S : World → Prop} {K : Act → World → Prop} {r : List (Bool × Nat × Oper)} {k : Nat} {o : Oper} {a : Act} {W : World} (hgd : Region.wanted o (yielded ops a.tmps) = true) (ho : o.op = .makeMap 66 none)
    (hk : ∀ W', MapIs W' W.heap.size 0 (fun _ _ => none) → Below W.heap.size W W' → S W' ∧ wpHX Tryd.prog ops S K r (a.put o.dst (.map (some W.heap.size))) W') : wpHX Tryd.prog ops S K ((true, k, o) :: r) a W := by
  obtain ⟨hrun, h1⟩ := exec_makeM (a := a) (W := W) ho
  exact wpHX_aval hgd hrun (hk _ h1 (bwA _ _)).1 (hk _ h1 (bwA _ _)).2
theorem exec_convP {p : ByteArray} {l : List UInt8} (hp : p = ⟨l.toArray⟩) {a : Act} {o : Oper} {W : World} {x : Operand} (ho : o.op = .convert 22 9 x) {A : Option Addr} {n c : Nat} (hx : a.eval x = .slice A n c) (h : SR vU 0 W A n c l) :
    (execOp a.eval o).run Tryd.prog W = .ok (.value (.string p)) W := by
  subst hp; exact exec_convB ho hx h
def PostNS (w : World) (p : ByteArray) (A : Option Addr) (n c : Nat) (a a' : Act) (W : World) : Prop := ∃ (sb cb hb : Nat) (R : Array Value),
  a' = ⟨#[.slice A n c, undef, .pointer none, .int .i64 (n : Int), .pointer (some ⟨sb, 0, none⟩), undef, .slice A n c, .int .i64 (n : Int), .slice A n c, .string p, .agg theTab, .int .i64 (n : Int), .int .i64 ((n + 1 : Nat) : Int), .slice (some ⟨cb, 0, none⟩) (n + 1) (n + 1), .map (some hb), .agg R, .pointer (some ⟨sb, 0, none⟩), undef, undef, undef, undef, undef, undef, undef, undef, undef, undef], []⟩ ∧
  SQ W sb cb (n + 1) hb p (fun _ _ => 0) ∧ MapIs W hb 0 (fun _ _ => none) ∧ Below w.heap.size w W ∧ w.heap.size ≤ sb ∧ w.heap.size ≤ cb ∧ w.heap.size ≤ hb
set_option maxRecDepth 100000 in
set_option maxHeartbeats 4000000 in
theorem newSearch_any (A : Option Addr) (n c : Nat) (l : List UInt8) (w : World) (hb : SR vU 0 w A n c l) (hn : n ≤ 4096) :
    Calls Tryd.prog 24 #[.slice A n c] w fun e w' => ∃ sb cb cap hb C T, e = .returned (.pointer (some ⟨sb, 0, none⟩)) ∧ SQ w' sb cb cap hb ⟨l.toArray⟩ C ∧ MapIs w' hb (5 * n) T ∧
      (∀ a, a < n → FixAt C ⟨l.toArray⟩ a ∧ ∀ m, T a m = stepF C ⟨l.toArray⟩ a m) ∧ (∀ a m, n ≤ a → C a m = 0) ∧ Below w.heap.size w w' := by
  obtain ⟨p, hpd⟩ : ∃ p : ByteArray, p = ⟨l.toArray⟩ := ⟨_, rfl⟩
  have hn2 : n = p.size := by rw [hb.hn, hpd]; show l.length = l.toArray.size; simp
  have hp : p.size ≤ 4096 := by omega
  rw [← hpd]
  have HPD := Lib.hid hpd
  have HB := Lib.hid hb
  have hw1 : IntKind.i64.wrap ((n : Int) + 1) = ((n + 1 : Nat) : Int) := by rw [wr64 _ (by omega) (by omega)]; omega
  have HN2 := Lib.hid hn2
  have HP := Lib.hid hp
  clear hb hpd hn2 hp
  go_enter Tryd.func24, Tryd.ntmps24
  go_wp2
  have HBW : Hid (Abv w w.drew) := bwDrew (Below.refl _ _)
  refine wp_region_TP (S := Abv w) (.br [(false, 0), (false, 1), (false, 3), (false, 4)] [2, 5, 6] (fun k => if k = 2 then .br [] [5, 6] (fun k => if k = 5 then .last [(true, 6), (false, 7), (true, 8), (false, 9)] else .last [(true, 5), (false, 7), (true, 8), (false, 9)]) else if k = 5 then .br [] [2, 6] (fun k => if k = 2 then .last [(true, 6), (false, 7), (true, 8), (false, 9)] else .last [(true, 2), (false, 7), (true, 8), (false, 9)]) else .br [] [2, 5] (fun k => if k = 2 then .last [(true, 5), (false, 7), (true, 8), (false, 9)] else .last [(true, 2), (false, 7), (true, 8), (false, 9)]))) (PostNS w p A n c) (by kernel_rfl) (by kernel_rfl) HBW.out ?_ ?_
  · simp only [wpTree, attachW, List.getElem?_cons_zero, List.getElem?_cons_succ]
    refine' wpHX_val rfl (fun W hW => ?_) ?_
    rotate_left
    · go_simp; rfl
    simp only [Act.put, List.setIfInBounds_toArray, List.set_cons_zero, List.set_cons_succ]
    refine' wpHX_val rfl (fun W hW => exec_convP HPD.out rfl rfl (HB.out.below hW)) ?_
    simp only [Act.put, List.setIfInBounds_toArray, List.set_cons_zero, List.set_cons_succ]
    refine' wpHX_val rfl (fun W hW => ?_) ?_
    rotate_left
    · go_simp; rfl
    simp only [Act.put, List.setIfInBounds_toArray, List.set_cons_zero, List.set_cons_succ]
    refine' wpHX_val rfl (fun W hW => ?_) ?_
    rotate_left
    · go_simp; rfl
    simp only [Act.put, List.setIfInBounds_toArray, List.set_cons_zero, List.set_cons_succ]
    refine wpHX_nil ?_
    intro k hk
    simp only [List.mem_cons, List.not_mem_nil, or_false] at hk
    rcases hk with rfl | rfl | rfl
    · simp only [reduceIte, Nat.reduceEqDiff, wpTree, attachW, List.getElem?_cons_zero, List.getElem?_cons_succ]
      refine' wpHX_acall rfl (fun W => ?_) ?_
      rotate_left 2
      · go_simp; exact ⟨rfl, rfl⟩
      refine (table_any _).mono ?_
      rintro e U1 ⟨rfl, hb1⟩
      have HB1 : Hid (Abv w U1) := bwStep HBW.out hb1
      refine ⟨_, rfl, HB1.out, ?_⟩
      simp only [Act.put, List.setIfInBounds_toArray, List.set_cons_zero, List.set_cons_succ]
      refine wpHX_nil ?_
      (try simp only [reduceIte, Nat.reduceEqDiff, wpTree, attachW, List.getElem?_cons_zero, List.getElem?_cons_succ])
      refine wpHX_nil ?_
      intro k hk
      simp only [List.mem_cons, List.not_mem_nil, or_false] at hk
      rcases hk with rfl | rfl
      · simp only [reduceIte, wpTree, attachW, List.getElem?_cons_zero, List.getElem?_cons_succ]
        refine' wpHX_makeC rfl rfl n hn rfl rfl ?_
        intro U2 hc2 hb2
        have HB2 : Hid (Abv w U2) := bwStep HB1.out hb2
        have HC2 := Lib.hid hc2
        refine ⟨HB2.out, ?_⟩
        simp only [Act.put, List.setIfInBounds_toArray, List.set_cons_zero, List.set_cons_succ]
        refine wpHX_nil ?_
        (try simp only [reduceIte, Nat.reduceEqDiff, wpTree, attachW, List.getElem?_cons_zero, List.getElem?_cons_succ])
        refine' wpHX_makeM rfl rfl ?_
        intro U3 hm3 hb3
        have HB3 : Hid (Abv w U3) := bwStep HB2.out hb3
        have HC3 := Lib.hid (HC2.out.below hb3)
        have HM3 := Lib.hid hm3
        refine ⟨HB3.out, ?_⟩
        simp only [Act.put, List.setIfInBounds_toArray, List.set_cons_zero, List.set_cons_succ]
        obtain ⟨R, hR, hR1, hR2, hR3, hR4, hR5⟩ := built_search p (.slice (some ⟨_, 0, none⟩) (n + 1) (n + 1)) (.map (some _)) rfl rfl
        refine' wpHX_val rfl (fun W hW => exec_buildS rfl rfl rfl rfl rfl R hR) ?_
        simp only [Act.put, List.setIfInBounds_toArray, List.set_cons_zero, List.set_cons_succ]
        refine' wpHX_aval rfl (exec_boxS rfl rfl) (bwAlloc HB3.out _) ?_
        simp only [Act.put, List.setIfInBounds_toArray, List.set_cons_zero, List.set_cons_succ]
        refine' wpHX_val rfl (fun W hW => ?_) ?_
        rotate_left
        · go_simp; rfl
        simp only [Act.put, List.setIfInBounds_toArray, List.set_cons_zero, List.set_cons_succ]
        refine wpHX_nil ?_
        exact ⟨U3.heap.size, U1.heap.size, U2.heap.size, R, rfl, (SQ.made HC3.out HM3.out HN2.out HP.out hR2 hR3 hR4 hR5).1, (SQ.made HC3.out HM3.out HN2.out HP.out hR2 hR3 hR4 hR5).2, bwAlloc HB3.out _, HB3.out.size, HB1.out.size, HB2.out.size⟩
      · simp only [reduceIte, Nat.reduceEqDiff, wpTree, attachW, List.getElem?_cons_zero, List.getElem?_cons_succ]
        refine' wpHX_makeM rfl rfl ?_
        intro U4 hm4 hb4
        have HB4 : Hid (Abv w U4) := bwStep HB1.out hb4
        have HM4 := Lib.hid hm4
        refine ⟨HB4.out, ?_⟩
        simp only [Act.put, List.setIfInBounds_toArray, List.set_cons_zero, List.set_cons_succ]
        refine wpHX_nil ?_
        (try simp only [reduceIte, Nat.reduceEqDiff, wpTree, attachW, List.getElem?_cons_zero, List.getElem?_cons_succ])
        refine' wpHX_makeC rfl rfl n hn rfl rfl ?_
        intro U5 hc5 hb5
        have HB5 : Hid (Abv w U5) := bwStep HB4.out hb5
        have HM5 := Lib.hid (HM4.out.below hb5)
        have HC5 := Lib.hid hc5
        refine ⟨HB5.out, ?_⟩
        simp only [Act.put, List.setIfInBounds_toArray, List.set_cons_zero, List.set_cons_succ]
        obtain ⟨R, hR, hR1, hR2, hR3, hR4, hR5⟩ := built_search p (.slice (some ⟨_, 0, none⟩) (n + 1) (n + 1)) (.map (some _)) rfl rfl
        refine' wpHX_val rfl (fun W hW => exec_buildS rfl rfl rfl rfl rfl R hR) ?_
        simp only [Act.put, List.setIfInBounds_toArray, List.set_cons_zero, List.set_cons_succ]
        refine' wpHX_aval rfl (exec_boxS rfl rfl) (bwAlloc HB5.out _) ?_
        simp only [Act.put, List.setIfInBounds_toArray, List.set_cons_zero, List.set_cons_succ]
        refine' wpHX_val rfl (fun W hW => ?_) ?_
        rotate_left
        · go_simp; rfl
        simp only [Act.put, List.setIfInBounds_toArray, List.set_cons_zero, List.set_cons_succ]
        refine wpHX_nil ?_
        exact ⟨U5.heap.size, U4.heap.size, U1.heap.size, R, rfl, (SQ.made HC5.out HM5.out HN2.out HP.out hR2 hR3 hR4 hR5).1, (SQ.made HC5.out HM5.out HN2.out HP.out hR2 hR3 hR4 hR5).2, bwAlloc HB5.out _, HB5.out.size, HB4.out.size, HB1.out.size⟩
    · simp only [reduceIte, Nat.reduceEqDiff, wpTree, attachW, List.getElem?_cons_zero, List.getElem?_cons_succ]
      refine' wpHX_makeC rfl rfl n hn rfl rfl ?_
      intro U6 hc6 hb6
      have HB6 : Hid (Abv w U6) := bwStep HBW.out hb6
      have HC6 := Lib.hid hc6
      refine ⟨HB6.out, ?_⟩
      simp only [Act.put, List.setIfInBounds_toArray, List.set_cons_zero, List.set_cons_succ]
      refine wpHX_nil ?_
      (try simp only [reduceIte, Nat.reduceEqDiff, wpTree, attachW, List.getElem?_cons_zero, List.getElem?_cons_succ])
      refine wpHX_nil ?_
      intro k hk
      simp only [List.mem_cons, List.not_mem_nil, or_false] at hk
      rcases hk with rfl | rfl
      · simp only [reduceIte, wpTree, attachW, List.getElem?_cons_zero, List.getElem?_cons_succ]
        refine' wpHX_acall rfl (fun W => ?_) ?_
        rotate_left 2
        · go_simp; exact ⟨rfl, rfl⟩
        refine (table_any _).mono ?_
        rintro e U7 ⟨rfl, hb7⟩
        have HB7 : Hid (Abv w U7) := bwStep HB6.out hb7
        have HC7 := Lib.hid (HC6.out.below hb7)
        refine ⟨_, rfl, HB7.out, ?_⟩
        simp only [Act.put, List.setIfInBounds_toArray, List.set_cons_zero, List.set_cons_succ]
        refine wpHX_nil ?_
        (try simp only [reduceIte, Nat.reduceEqDiff, wpTree, attachW, List.getElem?_cons_zero, List.getElem?_cons_succ])
        refine' wpHX_makeM rfl rfl ?_
        intro U8 hm8 hb8
        have HB8 : Hid (Abv w U8) := bwStep HB7.out hb8
        have HC8 := Lib.hid (HC7.out.below hb8)
        have HM8 := Lib.hid hm8
        refine ⟨HB8.out, ?_⟩
        simp only [Act.put, List.setIfInBounds_toArray, List.set_cons_zero, List.set_cons_succ]
        obtain ⟨R, hR, hR1, hR2, hR3, hR4, hR5⟩ := built_search p (.slice (some ⟨_, 0, none⟩) (n + 1) (n + 1)) (.map (some _)) rfl rfl
        refine' wpHX_val rfl (fun W hW => exec_buildS rfl rfl rfl rfl rfl R hR) ?_
        simp only [Act.put, List.setIfInBounds_toArray, List.set_cons_zero, List.set_cons_succ]
        refine' wpHX_aval rfl (exec_boxS rfl rfl) (bwAlloc HB8.out _) ?_
        simp only [Act.put, List.setIfInBounds_toArray, List.set_cons_zero, List.set_cons_succ]
        refine' wpHX_val rfl (fun W hW => ?_) ?_
        rotate_left
        · go_simp; rfl
        simp only [Act.put, List.setIfInBounds_toArray, List.set_cons_zero, List.set_cons_succ]
        refine wpHX_nil ?_
        exact ⟨U8.heap.size, w.drew.heap.size, U7.heap.size, R, rfl, (SQ.made HC8.out HM8.out HN2.out HP.out hR2 hR3 hR4 hR5).1, (SQ.made HC8.out HM8.out HN2.out HP.out hR2 hR3 hR4 hR5).2, bwAlloc HB8.out _, HB8.out.size, HBW.out.size, HB7.out.size⟩
      · simp only [reduceIte, Nat.reduceEqDiff, wpTree, attachW, List.getElem?_cons_zero, List.getElem?_cons_succ]
        refine' wpHX_makeM rfl rfl ?_
        intro U9 hm9 hb9
        have HB9 : Hid (Abv w U9) := bwStep HB6.out hb9
        have HC9 := Lib.hid (HC6.out.below hb9)
        have HM9 := Lib.hid hm9
        refine ⟨HB9.out, ?_⟩
        simp only [Act.put, List.setIfInBounds_toArray, List.set_cons_zero, List.set_cons_succ]
        refine wpHX_nil ?_
        (try simp only [reduceIte, Nat.reduceEqDiff, wpTree, attachW, List.getElem?_cons_zero, List.getElem?_cons_succ])
        refine' wpHX_acall rfl (fun W => ?_) ?_
        rotate_left 2
        · go_simp; exact ⟨rfl, rfl⟩
        refine (table_any _).mono ?_
        rintro e U10 ⟨rfl, hb10⟩
        have HB10 : Hid (Abv w U10) := bwStep HB9.out hb10
        have HC10 := Lib.hid (HC9.out.below hb10)
        have HM10 := Lib.hid (HM9.out.below hb10)
        refine ⟨_, rfl, HB10.out, ?_⟩
        simp only [Act.put, List.setIfInBounds_toArray, List.set_cons_zero, List.set_cons_succ]
        obtain ⟨R, hR, hR1, hR2, hR3, hR4, hR5⟩ := built_search p (.slice (some ⟨_, 0, none⟩) (n + 1) (n + 1)) (.map (some _)) rfl rfl
        refine' wpHX_val rfl (fun W hW => exec_buildS rfl rfl rfl rfl rfl R hR) ?_
        simp only [Act.put, List.setIfInBounds_toArray, List.set_cons_zero, List.set_cons_succ]
        refine' wpHX_aval rfl (exec_boxS rfl rfl) (bwAlloc HB10.out _) ?_
        simp only [Act.put, List.setIfInBounds_toArray, List.set_cons_zero, List.set_cons_succ]
        refine' wpHX_val rfl (fun W hW => ?_) ?_
        rotate_left
        · go_simp; rfl
        simp only [Act.put, List.setIfInBounds_toArray, List.set_cons_zero, List.set_cons_succ]
        refine wpHX_nil ?_
        exact ⟨U10.heap.size, w.drew.heap.size, U6.heap.size, R, rfl, (SQ.made HC10.out HM10.out HN2.out HP.out hR2 hR3 hR4 hR5).1, (SQ.made HC10.out HM10.out HN2.out HP.out hR2 hR3 hR4 hR5).2, bwAlloc HB10.out _, HB10.out.size, HBW.out.size, HB6.out.size⟩
    · simp only [reduceIte, Nat.reduceEqDiff, wpTree, attachW, List.getElem?_cons_zero, List.getElem?_cons_succ]
      refine' wpHX_makeM rfl rfl ?_
      intro U11 hm11 hb11
      have HB11 : Hid (Abv w U11) := bwStep HBW.out hb11
      have HM11 := Lib.hid hm11
      refine ⟨HB11.out, ?_⟩
      simp only [Act.put, List.setIfInBounds_toArray, List.set_cons_zero, List.set_cons_succ]
      refine wpHX_nil ?_
      (try simp only [reduceIte, Nat.reduceEqDiff, wpTree, attachW, List.getElem?_cons_zero, List.getElem?_cons_succ])
      refine wpHX_nil ?_
      intro k hk
      simp only [List.mem_cons, List.not_mem_nil, or_false] at hk
      rcases hk with rfl | rfl
      · simp only [reduceIte, wpTree, attachW, List.getElem?_cons_zero, List.getElem?_cons_succ]
        refine' wpHX_acall rfl (fun W => ?_) ?_
        rotate_left 2
        · go_simp; exact ⟨rfl, rfl⟩
        refine (table_any _).mono ?_
        rintro e U12 ⟨rfl, hb12⟩
        have HB12 : Hid (Abv w U12) := bwStep HB11.out hb12
        have HM12 := Lib.hid (HM11.out.below hb12)
        refine ⟨_, rfl, HB12.out, ?_⟩
        simp only [Act.put, List.setIfInBounds_toArray, List.set_cons_zero, List.set_cons_succ]
        refine wpHX_nil ?_
        (try simp only [reduceIte, Nat.reduceEqDiff, wpTree, attachW, List.getElem?_cons_zero, List.getElem?_cons_succ])
        refine' wpHX_makeC rfl rfl n hn rfl rfl ?_
        intro U13 hc13 hb13
        have HB13 : Hid (Abv w U13) := bwStep HB12.out hb13
        have HM13 := Lib.hid (HM12.out.below hb13)
        have HC13 := Lib.hid hc13
        refine ⟨HB13.out, ?_⟩
        simp only [Act.put, List.setIfInBounds_toArray, List.set_cons_zero, List.set_cons_succ]
        obtain ⟨R, hR, hR1, hR2, hR3, hR4, hR5⟩ := built_search p (.slice (some ⟨_, 0, none⟩) (n + 1) (n + 1)) (.map (some _)) rfl rfl
        refine' wpHX_val rfl (fun W hW => exec_buildS rfl rfl rfl rfl rfl R hR) ?_
        simp only [Act.put, List.setIfInBounds_toArray, List.set_cons_zero, List.set_cons_succ]
        refine' wpHX_aval rfl (exec_boxS rfl rfl) (bwAlloc HB13.out _) ?_
        simp only [Act.put, List.setIfInBounds_toArray, List.set_cons_zero, List.set_cons_succ]
        refine' wpHX_val rfl (fun W hW => ?_) ?_
        rotate_left
        · go_simp; rfl
        simp only [Act.put, List.setIfInBounds_toArray, List.set_cons_zero, List.set_cons_succ]
        refine wpHX_nil ?_
        exact ⟨U13.heap.size, U12.heap.size, w.drew.heap.size, R, rfl, (SQ.made HC13.out HM13.out HN2.out HP.out hR2 hR3 hR4 hR5).1, (SQ.made HC13.out HM13.out HN2.out HP.out hR2 hR3 hR4 hR5).2, bwAlloc HB13.out _, HB13.out.size, HB12.out.size, HBW.out.size⟩
      · simp only [reduceIte, Nat.reduceEqDiff, wpTree, attachW, List.getElem?_cons_zero, List.getElem?_cons_succ]
        refine' wpHX_makeC rfl rfl n hn rfl rfl ?_
        intro U14 hc14 hb14
        have HB14 : Hid (Abv w U14) := bwStep HB11.out hb14
        have HM14 := Lib.hid (HM11.out.below hb14)
        have HC14 := Lib.hid hc14
        refine ⟨HB14.out, ?_⟩
        simp only [Act.put, List.setIfInBounds_toArray, List.set_cons_zero, List.set_cons_succ]
        refine wpHX_nil ?_
        (try simp only [reduceIte, Nat.reduceEqDiff, wpTree, attachW, List.getElem?_cons_zero, List.getElem?_cons_succ])
        refine' wpHX_acall rfl (fun W => ?_) ?_
        rotate_left 2
        · go_simp; exact ⟨rfl, rfl⟩
        refine (table_any _).mono ?_
        rintro e U15 ⟨rfl, hb15⟩
        have HB15 : Hid (Abv w U15) := bwStep HB14.out hb15
        have HC15 := Lib.hid (HC14.out.below hb15)
        have HM15 := Lib.hid (HM14.out.below hb15)
        refine ⟨_, rfl, HB15.out, ?_⟩
        simp only [Act.put, List.setIfInBounds_toArray, List.set_cons_zero, List.set_cons_succ]
        obtain ⟨R, hR, hR1, hR2, hR3, hR4, hR5⟩ := built_search p (.slice (some ⟨_, 0, none⟩) (n + 1) (n + 1)) (.map (some _)) rfl rfl
        refine' wpHX_val rfl (fun W hW => exec_buildS rfl rfl rfl rfl rfl R hR) ?_
        simp only [Act.put, List.setIfInBounds_toArray, List.set_cons_zero, List.set_cons_succ]
        refine' wpHX_aval rfl (exec_boxS rfl rfl) (bwAlloc HB15.out _) ?_
        simp only [Act.put, List.setIfInBounds_toArray, List.set_cons_zero, List.set_cons_succ]
        refine' wpHX_val rfl (fun W hW => ?_) ?_
        rotate_left
        · go_simp; rfl
        simp only [Act.put, List.setIfInBounds_toArray, List.set_cons_zero, List.set_cons_succ]
        refine wpHX_nil ?_
        exact ⟨U15.heap.size, U11.heap.size, w.drew.heap.size, R, rfl, (SQ.made HC15.out HM15.out HN2.out HP.out hR2 hR3 hR4 hR5).1, (SQ.made HC15.out HM15.out HN2.out HP.out hR2 hR3 hR4 hR5).2, bwAlloc HB15.out _, HB15.out.size, HB11.out.size, HBW.out.size⟩
  · rintro a' W ⟨sb, cb, hb, R, rfl, hQ, hM, hBW, h1, h2, h3⟩
    have HQ := Lib.hid hQ
    have HM := Lib.hid hM
    have HBW2 := Lib.hid hBW
    have HN3 : Hid (w.heap.size ≤ sb ∧ w.heap.size ≤ cb ∧ w.heap.size ≤ hb) := ⟨h1, h2, h3⟩
    clear hQ hM hBW h1 h2 h3
    generalize ((n + 1 : Nat) : Int) = z12
    go_wp2
    go_loopw [5] (fun iv wr => ∃ (k : Nat) (j : Int) (C : Nat → Nat → Nat) (T : Nat → Nat → Option Opt), k ≤ n ∧ iv = .int .i64 j ∧ Hid (j = (n : Int) - 1 - k) ∧ Hid (SQ wr sb cb (n + 1) hb p C) ∧ Hid (MapIs wr hb (5 * k) T) ∧ Hid (Below w.heap.size w wr) ∧
      Hid (∀ a, n ≤ a + k → a < n → FixAt C p a ∧ ∀ m, T a m = stepF C p a m) ∧ Hid (∀ a m, n ≤ a → C a m = 0)) (fun iv _ => (intOf iv + 1).toNat)
    case atStart => exact ⟨0, _, _, _, Nat.zero_le _, rfl, by show _ = _; omega, HQ.out, HM.out, HBW2.out, fun a h1 h2 => by omega, fun _ _ _ => rfl⟩
    case round =>
      clear HQ HM HBW2
      obtain ⟨k, j, C, T, hk, rfl, hj, hQ, hM, hW, hF, hZ⟩ := hrel
      by_cases hlt : k < n
      · obtain ⟨i, hi1⟩ : ∃ i, i = n - 1 - k := ⟨_, rfl⟩
        obtain rfl : j = (i : Int) := by have := hj.out; omega
        have HI := Lib.hid hi1
        have hi2 : i ≤ 4096 := by omega
        have hi3 : i < p.size := by have := HN2.out; omega
        clear hi1
        go_wp2_with (go_at_call 38; refine (settle_any i wr w.heap.size sb cb (n + 1) hb (5 * k) p C T hQ.out hM.out hi3 HN3.out (by omega)).mono ?_; rintro e w6 ⟨rfl, C', hq6, hs6, hm6, hb6⟩; have HQ6 := Lib.hid hq6; have HS6 := Lib.hid hs6; have HM6 := Lib.hid hm6; have HB6 := Lib.hid hb6; clear hq6 hs6 hm6 hb6)
        have hoff := HS6.out.1
        refine ⟨⟨k + 1, _, C', _, by omega, rfl, by have := HI.out; show _ = _; omega, HQ6.out, HM6.out, hW.out.trans HB6.out, ?_, ?_⟩, by simp [intOf]⟩
        · show ∀ a, _
          intro a h1 h2
          by_cases e : a = i
          · subst e
            exact ⟨HS6.out.fix, fun m => if_pos rfl⟩
          · obtain ⟨h5, h6⟩ := hF.out a (by have := HI.out; omega) h2
            have hc : ∀ a' m, a ≤ a' → C' a' m = C a' m := fun a' m ha => hoff a' m (by have := HI.out; omega)
            exact ⟨h5.congr hc, fun m => by rw [if_neg e, h6 m, stepF.congr hc]⟩
        · show ∀ a m, _
          intro a m ha
          rw [hoff a m (by have := HI.out; omega)]
          exact hZ.out a m ha
      · have hk2 : k = n := by omega
        have hj0 : decide ((0 : Int) ≤ j) = false := by have := hj.out; simp; omega
        have HR : Hid (SQ wr sb cb (n + 1) hb p C ∧ MapIs wr hb (5 * n) T ∧ (∀ a, a < n → FixAt C p a ∧ ∀ m, T a m = stepF C p a m) ∧ (∀ a m, n ≤ a → C a m = 0) ∧ Below w.heap.size w wr) := by
          have h9 := hM.out
          rw [hk2] at h9
          exact ⟨hQ.out, h9, fun a ha => hF.out a (by omega) ha, hZ.out, hW.out⟩
        clear hQ hM hW hF hZ
        go_wp2
        go_ret
        exact ⟨sb, cb, n + 1, hb, C, T, rfl, HR.out⟩
end Go.Proofs.YtplppbfnlfehnaaDoor
