import Derived.Test.YtmnlkganmgcpbaaGreatDoorQa28
import Derived.Test.YtmnlkganmgcpbaaGreatDoorQa22
import Derived.Test.YtmnlkganmgcpbaaGreatDoorQa9
namespace Go.Proofs.YtmnlkganmgcpbaaGreatDoor
open Go.RowKit
set_option linter.unusedVariables false
set_option linter.unusedSectionVars false
set_option linter.unusedSimpArgs false
structure BP (n : Nat) (w wr : World) (bb : Nat) (ps : List Pt) : Prop where
  B : Below n w wr
  X : ∃ A c, RowIs wr bb #[.slice A ps.length c] 40 ∧ wr.ownsRow n 47 2 (.slice A ps.length c) ps.length (ps.flatMap ptV)
  n1 : n ≤ bb
  n2 : n ≤ wr.heap.size
theorem BP.below {n : Nat} {w wr W : World} {bb : Nat} {ps : List Pt} (h : BP n w wr bb ps) (hW : Below wr.heap.size wr W) : BP n w W bb ps := by
  obtain ⟨A, c, h1, h2⟩ := h.X
  exact ⟨h.B.trans (hW.mono h.n2), ⟨A, c, h1.below hW, ownsRow_below h2 hW⟩, h.n1, Nat.le_trans h.n2 hW.size⟩
theorem own_neP {n : Nat} {w : World} {bb q : Nat} {u : Value} {v : Value} {k : Nat} {xs : List Value} (h1 : RowIs w bb #[u] 40) (h2 : w.ownsRow n 47 2 v k xs) (hq : v.ownBlock = some q) : q ≠ bb := by
  rcases h2.2 with ⟨rfl, _⟩ | ⟨g, cap, cur, rfl, _, hg, _⟩
  · cases hq
  · simp only [Value.ownBlock, Option.some.injEq] at hq
    subst hq
    intro e
    subst e
    unfold RowIs at h1
    rw [h1] at hg
    injection hg with hg
    injection hg with _ e _
    exact absurd e (by decide)
theorem KeepP.grown {n : Nat} {w W : World} {v : Value} {k : Nat} {xs : List Value} (h : w.ownsRow n 47 2 v k xs) (hg : w.grownBy W v.ownBlock) : KeepP w W := by
  intro q o ho hn
  refine (hg.block q (lt_of_heap ho) ?_).trans ho
  intro e
  rcases h.2 with ⟨rfl, _⟩ | ⟨g, cap, cur, rfl, _, hh, _⟩
  · cases e
  · simp only [Value.ownBlock, Option.some.injEq] at e
    subst e
    rw [hh] at ho
    injection ho with ho
    subst ho
    exact absurd hn (by simp [notPts])
theorem KeepP.setc {w : World} {g i : Nat} {cur : Array Value} (h : RowIs w g cur 40) (u : Value) : KeepP w (w.setCell ⟨g, i, none⟩ u) := by
  intro q o ho hn
  refine (Below.heap_setCell _ _ _ _ ?_).trans ho
  intro e
  subst e
  unfold RowIs at h
  rw [h] at ho
  injection ho with ho
  subst ho
  exact absurd hn (by simp [notPts])
theorem own_setP {n : Nat} {w : World} {bb : Nat} {u : Value} {v : Value} {k : Nat} {xs : List Value} (h1 : RowIs w bb #[u] 40) (h2 : w.ownsRow n 47 2 v k xs) (y : Value) : (w.setCell ⟨bb, 0, none⟩ y).ownsRow n 47 2 v k xs := by
  refine ⟨h2.1, ?_⟩
  rcases h2.2 with h3 | ⟨g, cap, cur, e1, e2, e3, e4⟩
  · exact .inl h3
  · refine .inr ⟨g, cap, cur, e1, e2, (Below.heap_setCell _ _ _ _ ?_).trans e3, e4⟩
    exact own_neP h1 h2 (by rw [e1]; rfl)
theorem exec_storeP {a : Act} {o : Oper} {W : World} {x q : Operand} (ho : o.op = .store 40 q x) (p : Addr) (A : Option Addr) (n c : Nat) (hq : a.eval q = .pointer (some p)) (hx : a.eval x = .slice A n c) {u : Value} (hc : W.cell? p = some u) (hf : W.frozen? p = false) :
    (execOp a.eval o).run Tryz.prog W = .ok .skip (W.setCell p (.slice A n c)) := by
  unfold execOp
  simp only [ho, hq, hx, Instr.storeAt, Instr.sureAddr, Sem.run_bind, Sem.run_pure, Result.andThen_ok]
  go_simp
theorem wpHX_appendP {ops : Array Oper} {S : World → Prop} {K : Act → World → Prop} {r : List (Bool × Nat × Oper)} {k : Nat} {o : Oper} {a : Act} {W : World} {base : Nat} {A : Option Addr} {ad : Addr} {n c m c2 : Nat} {xs ys : List Pt} (hO : W.ownsRow base 47 2 (.slice A n c) n (xs.flatMap ptV)) (hb : base ≤ W.heap.size)
    (hgd : Region.wanted o (yielded ops a.tmps) = true) (s y : Operand) (ho : o.op = .call { callee := .builtin .append, args := #[s, y], argTypes := #[40, 40] }) (hs : a.eval s = .slice A n c) (hy : a.eval y = .slice (some ad) m c2) (hm : m = ys.length)
    (hr : ∀ j u, (ys.flatMap ptV)[j]? = some u → W.cell? (ad.add j) = some u) (hl : n + m ≤ 1000000)
    (hk : ∀ A' c' W', W'.ownsRow base 47 2 (.slice A' (n + m) c') (n + m) ((xs ++ ys).flatMap ptV) → W.grownBy W' (Value.slice A n c).ownBlock → S W' ∧ wpHX Tryz.prog ops S K r (a.put o.dst (.slice A' (n + m) c')) W') :
    wpHX Tryz.prog ops S K ((true, k, o) :: r) a W := by
  obtain ⟨v', W', hrun, hown, hg, -⟩ := append_pts o.type hO hb ad m c2 ys hm hr hl
  obtain ⟨A', c', rfl⟩ := ownsRow_shape hown
  have h5 := hk A' c' W' hown hg
  refine wpHX_aval hgd ?_ h5.1 h5.2
  unfold execOp
  simp only [ho, resolve, invoke, builtin, Sem.run_bind, Sem.run_pure, Result.andThen_ok, List.map_toArray, List.map_cons, List.map_nil, hs, hy, hrun]
set_option maxRecDepth 100000 in
set_option maxHeartbeats 600000 in
theorem sidep_any (n : Nat) (w0 w : World) (bb : Nat) (ps : List Pt) (fat : Nat) (caps : Array Value) (L i s r : Nat) (c : Bool) (h : BP n w0 w bb ps) (hl : ps.length ≤ 60000) (hr : r ≤ 140) (hcf : ∀ (args : Array Value) (W : World), (callFunc fat args).run Tryz.prog W = .ok (.enter fat args) W)
    (hat0 : ∀ W, KeepP w W → ∀ j, j < r → Calls Tryz.prog fat (#[.int .i64 j, .int .i64 0] ++ caps) W fun e w' => e = .returned (.agg #[.int .i64 (((ptN L c i s j 0).1 : Nat) : Int), .int .i64 (((ptN L c i s j 0).2 : Nat) : Int)]) ∧ Below W.heap.size W w')
    (hat1 : ∀ W, KeepP w W → ∀ j, j < r → Calls Tryz.prog fat (#[.int .i64 j, .int .i64 1] ++ caps) W fun e w' => e = .returned (.agg #[.int .i64 (((ptN L c i s j 1).1 : Nat) : Int), .int .i64 (((ptN L c i s j 1).2 : Nat) : Int)]) ∧ Below W.heap.size W w') :
    Calls Tryz.prog 93 #[.int .i64 r, .func (Fn.func fat) #[] caps, .pointer (some ⟨bb, 0, none⟩)] w fun e w' => e = .returned (.tuple #[]) ∧ BP n w0 w' bb (ps ++ jL L c i s r) ∧ KeepP w w' := by
  have H0 : Hid (BP n w0 w bb (ps ++ jL L c i s 0) ∧ KeepP w w) := by
    show _ ∧ _
    rw [show jL L c i s 0 = [] from rfl, List.append_nil]; exact ⟨h, KeepP.refl _⟩
  have HA0 := Lib.hid hat0
  have HA1 := Lib.hid hat1
  clear h hat0 hat1
  go_enter Tryz.func93, Tryz.ntmps93
  go_wp2
  go_loopw [7] (fun iv wr => ∃ j : Nat, j ≤ r ∧ iv = .int .i64 j ∧ Hid (BP n w0 wr bb (ps ++ jL L c i s j) ∧ KeepP w wr)) (fun iv _ => r - (intOf iv).toNat)
  case atStart => exact ⟨0, Nat.zero_le _, rfl, H0⟩
  case round =>
    clear H0
    obtain ⟨j, hj, rfl, hP⟩ := hrel
    by_cases hlt : j < r
    · obtain ⟨A, cp, hX, hO⟩ := hP.out.1.X
      have HX := Lib.hid hX
      have HO := Lib.hid hO
      have HN : Hid (n ≤ bb ∧ n ≤ wr.heap.size) := ⟨hP.out.1.n1, hP.out.1.n2⟩
      have HB := Lib.hid hP.out.1.B
      have HK := Lib.hid hP.out.2
      have HNX : Hid (ps ++ jL L c i s (j + 1) = (ps ++ jL L c i s j) ++ [ptN L c i s j 0, ptN L c i s j 1]) := by
        show _ = _
        rw [jL_succ, List.append_assoc]; rfl
      have HLE : Hid ((ps ++ jL L c i s j).length ≤ 70000) := by
        show _ ≤ _
        rw [List.length_append, jL_length]; omega
      have HC0 : Hid (∀ W, KeepP wr W → Calls Tryz.prog fat (#[.int .i64 j, .int .i64 0] ++ caps) W fun e w' => e = .returned (.agg #[.int .i64 (((ptN L c i s j 0).1 : Nat) : Int), .int .i64 (((ptN L c i s j 0).2 : Nat) : Int)]) ∧ Below W.heap.size W w') := fun W hW => HA0.out W (HK.out.trans hW) j hlt
      have HC1 : Hid (∀ W, KeepP wr W → Calls Tryz.prog fat (#[.int .i64 j, .int .i64 1] ++ caps) W fun e w' => e = .returned (.agg #[.int .i64 (((ptN L c i s j 1).1 : Nat) : Int), .int .i64 (((ptN L c i s j 1).2 : Nat) : Int)]) ∧ Below W.heap.size W w') := fun W hW => HA1.out W (HK.out.trans hW) j hlt
      have CF : Hid (∀ W, Abv wr W → W.cell? ⟨bb, 0, none⟩ = some (.slice A (ps ++ jL L c i s j).length cp)) := fun W hW => (HX.out.below hW).cell 0 _ rfl
      generalize ptN L c i s j 0 = p0 at *
      generalize ptN L c i s j 1 = p1 at *
      generalize hqs : ps ++ jL L c i s j = qs at *
      generalize hnl : qs.length = nl at *
      have HNL := Lib.hid hnl
      clear hqs hnl hX hO hP
      go_wp2
      have HD0 : Hid (Abv wr wr.drew) := bwDrew (Below.refl _ _)
      have HFIN : Hid (∀ A4 c4 w4, Below n w0 w4 → w4.ownsRow n 47 2 (.slice A4 (nl + 2) c4) (nl + 2) ((qs ++ [p0, p1]).flatMap ptV) → RowIs w4 bb #[.slice A nl cp] 40 → KeepP wr w4 → n ≤ w4.heap.size → Hid (BP n w0 (w4.setCell ⟨bb, 0, none⟩ (.slice A4 (nl + 2) c4)) bb (ps ++ jL L c i s (j + 1)) ∧ KeepP w (w4.setCell ⟨bb, 0, none⟩ (.slice A4 (nl + 2) c4)))) := by
        show ∀ _ _ _, _
        intro A4 c4 w4 hb4 ho4 hx4 hk4 hs4
        have he : (qs ++ [p0, p1]).length = nl + 2 := by rw [List.length_append, HNL.out]; rfl
        show BP _ _ _ _ _ ∧ _
        rw [HNX.out]
        refine ⟨⟨hb4.setCell (by exact HN.out.1) _, ⟨A4, c4, ?_, ?_⟩, HN.out.1, by simpa using hs4⟩, (HK.out.trans hk4).trans (KeepP.setc hx4 _)⟩
        · rw [he]; exact hx4.setc _
        · rw [he]; exact own_setP hx4 ho4 _
      --REGION
      refine wp_region_T (S := fun _ => True) (.br [(false, 1), (false, 2), (false, 4), (false, 5)] [0, 3] (fun k => if k = 0 then .last [(true, 3), (true, 6), (true, 7), (true, 8), (true, 9)] else .br [] [0, 6] (fun k => if k = 0 then .last [(true, 6), (true, 7), (true, 8), (true, 9)] else .br [] [0, 7] (fun k => if k = 0 then .last [(true, 7), (true, 8), (true, 9)] else .last [(true, 0), (true, 8), (true, 9)])))) (by kernel_rfl) (by kernel_rfl) trivial ?_
      simp only [reduceIte, Nat.reduceEqDiff, wpTree, attachW, List.getElem?_cons_zero, List.getElem?_cons_succ]
      refine' wpHX_val rfl (fun W hW => ?_) ?_
      rotate_left
      · go_simp; rfl
      simp only [Act.put, List.setIfInBounds_toArray, List.set_cons_zero, List.set_cons_succ]
      refine' wpHX_val rfl (fun W hW => ?_) ?_
      rotate_left
      · go_simp; rfl
      simp only [Act.put, List.setIfInBounds_toArray, List.set_cons_zero, List.set_cons_succ]
      refine' wpHX_val rfl (fun W hW => ?_) ?_
      rotate_left
      · go_simp; rfl
      simp only [Act.put, List.setIfInBounds_toArray, List.set_cons_zero, List.set_cons_succ]
      refine' wpHX_val rfl (fun W hW => ?_) ?_
      rotate_left
      · go_simp; rfl
      simp only [Act.put, List.setIfInBounds_toArray, List.set_cons_zero, List.set_cons_succ]
      refine wpHX_nil ?_
      intro k hk
      simp only [List.mem_cons, List.not_mem_nil, or_false] at hk
      rcases hk with rfl | rfl
      · simp only [reduceIte, Nat.reduceEqDiff, wpTree, attachW, List.getElem?_cons_zero, List.getElem?_cons_succ]
        refine' wpHX_aval (v := .slice A nl cp) (w' := wr.drew) rfl (by have f0 := (HX.out.below HD0.out).cell 0 _ rfl; go_simp) trivial ?_
        simp only [Act.put, List.setIfInBounds_toArray, List.set_cons_zero, List.set_cons_succ]
        refine wpHX_nil ?_
        (try simp only [reduceIte, Nat.reduceEqDiff, wpTree, attachW, List.getElem?_cons_zero, List.getElem?_cons_succ])
        refine' wpHX_acall rfl (fun W => ?_) ?_
        rotate_left 2
        · go_simp; exact ⟨rfl, rfl⟩
        refine (HC0.out _ (KeepP.below HD0.out)).mono ?_
        rintro e U22 ⟨rfl, hb⟩
        have HB22 : Hid (Abv wr U22) := bwStep HD0.out hb
        clear hb
        refine ⟨_, rfl, trivial, ?_⟩
        simp only [Act.put, List.setIfInBounds_toArray, List.set_cons_zero, List.set_cons_succ]
        refine' wpHX_acall rfl (fun W => ?_) ?_
        rotate_left 2
        · go_simp; exact ⟨rfl, rfl⟩
        refine (HC1.out _ (KeepP.below HB22.out)).mono ?_
        rintro e U23 ⟨rfl, hb⟩
        have HB23 : Hid (Abv wr U23) := bwStep HB22.out hb
        clear hb
        refine ⟨_, rfl, trivial, ?_⟩
        simp only [Act.put, List.setIfInBounds_toArray, List.set_cons_zero, List.set_cons_succ]
        obtain ⟨U24, hU24⟩ : ∃ U, U = U23.alloc (.cells #[.int .i64 (p0.1 : Int), .int .i64 (p0.2 : Int), .int .i64 (p1.1 : Int), .int .i64 (p1.2 : Int)] 47) := ⟨_, rfl⟩
        have HB24 : Hid (Abv wr U24) := by show Below _ _ _; rw [hU24]; exact bwAlloc HB23.out _
        obtain ⟨lb24, hlb24⟩ : ∃ b, b = U23.heap.size := ⟨_, rfl⟩
        have HL24 : Hid (∀ j u, (([p0, p1] : List Pt).flatMap ptV)[j]? = some u → U24.cell? ((⟨lb24, 0, none⟩ : Addr).add j) = some u) := by show ∀ _ _, _; rw [hU24, hlb24]; exact lit_pts U23 [p0, p1] _
        refine' wpHX_aval (v := .slice (some ⟨lb24, 0, none⟩) 2 2) (w' := U24) rfl (by rw [hU24, hlb24]; go_simp) trivial ?_
        simp only [Act.put, List.setIfInBounds_toArray, List.set_cons_zero, List.set_cons_succ]
        clear hU24 hlb24
        refine' wpHX_appendP (ys := [p0, p1]) (ownsRow_below HO.out HB24.out) (Nat.le_trans HN.out.2 HB24.out.size) rfl _ _ rfl rfl rfl rfl HL24.out (by have := HLE.out; omega) ?_
        intro A4 c4 w4 hown hg
        have HO4 := Lib.hid hown
        have HX4 : Hid (RowIs w4 bb #[.slice A nl cp] 40) := (hg.block bb (lt_of_heap (HX.out.below HB24.out)) (fun e => own_neP (HX.out.below HB24.out) (ownsRow_below HO.out HB24.out) e.symm rfl)).trans (HX.out.below HB24.out)
        have HK4 : Hid (KeepP wr w4) := (KeepP.below HB24.out).trans (KeepP.grown (ownsRow_below HO.out HB24.out) hg)
        have HB4 : Hid (Below n w0 w4) := (HB.out.trans (HB24.out.mono HN.out.2)).grown hg (Nat.le_trans HN.out.2 HB24.out.size) (fun q hq => ((ownsRow_below HO.out HB24.out).lt q hq).1)
        have HS4 : Hid (n ≤ w4.heap.size) := Nat.le_trans HN.out.2 (Nat.le_trans HB24.out.size hg.size)
        clear hown hg
        refine ⟨trivial, ?_⟩
        simp only [Act.put, List.setIfInBounds_toArray, List.set_cons_zero, List.set_cons_succ]
        refine' wpHX_askip (w' := w4.setCell ⟨bb, 0, none⟩ (.slice A4 (nl + 2) c4)) rfl (exec_storeP rfl ⟨bb, 0, none⟩ A4 (nl + 2) c4 rfl rfl (HX4.out.cell 0 _ rfl) (frozen_of_row _ _ _ _ _ HX4.out)) trivial ?_
        simp only [Act.put, List.setIfInBounds_toArray, List.set_cons_zero, List.set_cons_succ]
        refine wpHX_nil ?_
        go_wp2
        exact ⟨⟨j + 1, by omega, by go_num, HFIN.out A4 c4 w4 HB4.out HO4.out HX4.out HK4.out HS4.out⟩, by simp [intOf]; omega⟩
      · simp only [reduceIte, Nat.reduceEqDiff, wpTree, attachW, List.getElem?_cons_zero, List.getElem?_cons_succ]
        refine' wpHX_acall rfl (fun W => ?_) ?_
        rotate_left 2
        · go_simp; exact ⟨rfl, rfl⟩
        refine (HC0.out _ (KeepP.below HD0.out)).mono ?_
        rintro e U27 ⟨rfl, hb⟩
        have HB27 : Hid (Abv wr U27) := bwStep HD0.out hb
        clear hb
        refine ⟨_, rfl, trivial, ?_⟩
        simp only [Act.put, List.setIfInBounds_toArray, List.set_cons_zero, List.set_cons_succ]
        refine wpHX_nil ?_
        (try simp only [reduceIte, Nat.reduceEqDiff, wpTree, attachW, List.getElem?_cons_zero, List.getElem?_cons_succ])
        refine wpHX_nil ?_
        intro k hk
        simp only [List.mem_cons, List.not_mem_nil, or_false] at hk
        rcases hk with rfl | rfl
        · simp only [reduceIte, Nat.reduceEqDiff, wpTree, attachW, List.getElem?_cons_zero, List.getElem?_cons_succ]
          refine' wpHX_aval (v := .slice A nl cp) (w' := U27) rfl (by have f0 := (HX.out.below HB27.out).cell 0 _ rfl; go_simp) trivial ?_
          simp only [Act.put, List.setIfInBounds_toArray, List.set_cons_zero, List.set_cons_succ]
          refine wpHX_nil ?_
          (try simp only [reduceIte, Nat.reduceEqDiff, wpTree, attachW, List.getElem?_cons_zero, List.getElem?_cons_succ])
          refine' wpHX_acall rfl (fun W => ?_) ?_
          rotate_left 2
          · go_simp; exact ⟨rfl, rfl⟩
          refine (HC1.out _ (KeepP.below HB27.out)).mono ?_
          rintro e U29 ⟨rfl, hb⟩
          have HB29 : Hid (Abv wr U29) := bwStep HB27.out hb
          clear hb
          refine ⟨_, rfl, trivial, ?_⟩
          simp only [Act.put, List.setIfInBounds_toArray, List.set_cons_zero, List.set_cons_succ]
          obtain ⟨U30, hU30⟩ : ∃ U, U = U29.alloc (.cells #[.int .i64 (p0.1 : Int), .int .i64 (p0.2 : Int), .int .i64 (p1.1 : Int), .int .i64 (p1.2 : Int)] 47) := ⟨_, rfl⟩
          have HB30 : Hid (Abv wr U30) := by show Below _ _ _; rw [hU30]; exact bwAlloc HB29.out _
          obtain ⟨lb30, hlb30⟩ : ∃ b, b = U29.heap.size := ⟨_, rfl⟩
          have HL30 : Hid (∀ j u, (([p0, p1] : List Pt).flatMap ptV)[j]? = some u → U30.cell? ((⟨lb30, 0, none⟩ : Addr).add j) = some u) := by show ∀ _ _, _; rw [hU30, hlb30]; exact lit_pts U29 [p0, p1] _
          refine' wpHX_aval (v := .slice (some ⟨lb30, 0, none⟩) 2 2) (w' := U30) rfl (by rw [hU30, hlb30]; go_simp) trivial ?_
          simp only [Act.put, List.setIfInBounds_toArray, List.set_cons_zero, List.set_cons_succ]
          clear hU30 hlb30
          refine' wpHX_appendP (ys := [p0, p1]) (ownsRow_below HO.out HB30.out) (Nat.le_trans HN.out.2 HB30.out.size) rfl _ _ rfl rfl rfl rfl HL30.out (by have := HLE.out; omega) ?_
          intro A4 c4 w4 hown hg
          have HO4 := Lib.hid hown
          have HX4 : Hid (RowIs w4 bb #[.slice A nl cp] 40) := (hg.block bb (lt_of_heap (HX.out.below HB30.out)) (fun e => own_neP (HX.out.below HB30.out) (ownsRow_below HO.out HB30.out) e.symm rfl)).trans (HX.out.below HB30.out)
          have HK4 : Hid (KeepP wr w4) := (KeepP.below HB30.out).trans (KeepP.grown (ownsRow_below HO.out HB30.out) hg)
          have HB4 : Hid (Below n w0 w4) := (HB.out.trans (HB30.out.mono HN.out.2)).grown hg (Nat.le_trans HN.out.2 HB30.out.size) (fun q hq => ((ownsRow_below HO.out HB30.out).lt q hq).1)
          have HS4 : Hid (n ≤ w4.heap.size) := Nat.le_trans HN.out.2 (Nat.le_trans HB30.out.size hg.size)
          clear hown hg
          refine ⟨trivial, ?_⟩
          simp only [Act.put, List.setIfInBounds_toArray, List.set_cons_zero, List.set_cons_succ]
          refine' wpHX_askip (w' := w4.setCell ⟨bb, 0, none⟩ (.slice A4 (nl + 2) c4)) rfl (exec_storeP rfl ⟨bb, 0, none⟩ A4 (nl + 2) c4 rfl rfl (HX4.out.cell 0 _ rfl) (frozen_of_row _ _ _ _ _ HX4.out)) trivial ?_
          simp only [Act.put, List.setIfInBounds_toArray, List.set_cons_zero, List.set_cons_succ]
          refine wpHX_nil ?_
          go_wp2
          exact ⟨⟨j + 1, by omega, by go_num, HFIN.out A4 c4 w4 HB4.out HO4.out HX4.out HK4.out HS4.out⟩, by simp [intOf]; omega⟩
        · simp only [reduceIte, Nat.reduceEqDiff, wpTree, attachW, List.getElem?_cons_zero, List.getElem?_cons_succ]
          refine' wpHX_acall rfl (fun W => ?_) ?_
          rotate_left 2
          · go_simp; exact ⟨rfl, rfl⟩
          refine (HC1.out _ (KeepP.below HB27.out)).mono ?_
          rintro e U33 ⟨rfl, hb⟩
          have HB33 : Hid (Abv wr U33) := bwStep HB27.out hb
          clear hb
          refine ⟨_, rfl, trivial, ?_⟩
          simp only [Act.put, List.setIfInBounds_toArray, List.set_cons_zero, List.set_cons_succ]
          refine wpHX_nil ?_
          (try simp only [reduceIte, Nat.reduceEqDiff, wpTree, attachW, List.getElem?_cons_zero, List.getElem?_cons_succ])
          refine wpHX_nil ?_
          intro k hk
          simp only [List.mem_cons, List.not_mem_nil, or_false] at hk
          rcases hk with rfl | rfl
          · simp only [reduceIte, Nat.reduceEqDiff, wpTree, attachW, List.getElem?_cons_zero, List.getElem?_cons_succ]
            refine' wpHX_aval (v := .slice A nl cp) (w' := U33) rfl (by have f0 := (HX.out.below HB33.out).cell 0 _ rfl; go_simp) trivial ?_
            simp only [Act.put, List.setIfInBounds_toArray, List.set_cons_zero, List.set_cons_succ]
            refine wpHX_nil ?_
            (try simp only [reduceIte, Nat.reduceEqDiff, wpTree, attachW, List.getElem?_cons_zero, List.getElem?_cons_succ])
            obtain ⟨U35, hU35⟩ : ∃ U, U = U33.alloc (.cells #[.int .i64 (p0.1 : Int), .int .i64 (p0.2 : Int), .int .i64 (p1.1 : Int), .int .i64 (p1.2 : Int)] 47) := ⟨_, rfl⟩
            have HB35 : Hid (Abv wr U35) := by show Below _ _ _; rw [hU35]; exact bwAlloc HB33.out _
            obtain ⟨lb35, hlb35⟩ : ∃ b, b = U33.heap.size := ⟨_, rfl⟩
            have HL35 : Hid (∀ j u, (([p0, p1] : List Pt).flatMap ptV)[j]? = some u → U35.cell? ((⟨lb35, 0, none⟩ : Addr).add j) = some u) := by show ∀ _ _, _; rw [hU35, hlb35]; exact lit_pts U33 [p0, p1] _
            refine' wpHX_aval (v := .slice (some ⟨lb35, 0, none⟩) 2 2) (w' := U35) rfl (by rw [hU35, hlb35]; go_simp) trivial ?_
            simp only [Act.put, List.setIfInBounds_toArray, List.set_cons_zero, List.set_cons_succ]
            clear hU35 hlb35
            refine' wpHX_appendP (ys := [p0, p1]) (ownsRow_below HO.out HB35.out) (Nat.le_trans HN.out.2 HB35.out.size) rfl _ _ rfl rfl rfl rfl HL35.out (by have := HLE.out; omega) ?_
            intro A4 c4 w4 hown hg
            have HO4 := Lib.hid hown
            have HX4 : Hid (RowIs w4 bb #[.slice A nl cp] 40) := (hg.block bb (lt_of_heap (HX.out.below HB35.out)) (fun e => own_neP (HX.out.below HB35.out) (ownsRow_below HO.out HB35.out) e.symm rfl)).trans (HX.out.below HB35.out)
            have HK4 : Hid (KeepP wr w4) := (KeepP.below HB35.out).trans (KeepP.grown (ownsRow_below HO.out HB35.out) hg)
            have HB4 : Hid (Below n w0 w4) := (HB.out.trans (HB35.out.mono HN.out.2)).grown hg (Nat.le_trans HN.out.2 HB35.out.size) (fun q hq => ((ownsRow_below HO.out HB35.out).lt q hq).1)
            have HS4 : Hid (n ≤ w4.heap.size) := Nat.le_trans HN.out.2 (Nat.le_trans HB35.out.size hg.size)
            clear hown hg
            refine ⟨trivial, ?_⟩
            simp only [Act.put, List.setIfInBounds_toArray, List.set_cons_zero, List.set_cons_succ]
            refine' wpHX_askip (w' := w4.setCell ⟨bb, 0, none⟩ (.slice A4 (nl + 2) c4)) rfl (exec_storeP rfl ⟨bb, 0, none⟩ A4 (nl + 2) c4 rfl rfl (HX4.out.cell 0 _ rfl) (frozen_of_row _ _ _ _ _ HX4.out)) trivial ?_
            simp only [Act.put, List.setIfInBounds_toArray, List.set_cons_zero, List.set_cons_succ]
            refine wpHX_nil ?_
            go_wp2
            exact ⟨⟨j + 1, by omega, by go_num, HFIN.out A4 c4 w4 HB4.out HO4.out HX4.out HK4.out HS4.out⟩, by simp [intOf]; omega⟩
          · simp only [reduceIte, Nat.reduceEqDiff, wpTree, attachW, List.getElem?_cons_zero, List.getElem?_cons_succ]
            obtain ⟨U38, hU38⟩ : ∃ U, U = U33.alloc (.cells #[.int .i64 (p0.1 : Int), .int .i64 (p0.2 : Int), .int .i64 (p1.1 : Int), .int .i64 (p1.2 : Int)] 47) := ⟨_, rfl⟩
            have HB38 : Hid (Abv wr U38) := by show Below _ _ _; rw [hU38]; exact bwAlloc HB33.out _
            obtain ⟨lb38, hlb38⟩ : ∃ b, b = U33.heap.size := ⟨_, rfl⟩
            have HL38 : Hid (∀ j u, (([p0, p1] : List Pt).flatMap ptV)[j]? = some u → U38.cell? ((⟨lb38, 0, none⟩ : Addr).add j) = some u) := by show ∀ _ _, _; rw [hU38, hlb38]; exact lit_pts U33 [p0, p1] _
            refine' wpHX_aval (v := .slice (some ⟨lb38, 0, none⟩) 2 2) (w' := U38) rfl (by rw [hU38, hlb38]; go_simp) trivial ?_
            simp only [Act.put, List.setIfInBounds_toArray, List.set_cons_zero, List.set_cons_succ]
            clear hU38 hlb38
            refine wpHX_nil ?_
            (try simp only [reduceIte, Nat.reduceEqDiff, wpTree, attachW, List.getElem?_cons_zero, List.getElem?_cons_succ])
            refine' wpHX_aval (v := .slice A nl cp) (w' := U38) rfl (by have f0 := (HX.out.below HB38.out).cell 0 _ rfl; go_simp) trivial ?_
            simp only [Act.put, List.setIfInBounds_toArray, List.set_cons_zero, List.set_cons_succ]
            refine' wpHX_appendP (ys := [p0, p1]) (ownsRow_below HO.out HB38.out) (Nat.le_trans HN.out.2 HB38.out.size) rfl _ _ rfl rfl rfl rfl HL38.out (by have := HLE.out; omega) ?_
            intro A4 c4 w4 hown hg
            have HO4 := Lib.hid hown
            have HX4 : Hid (RowIs w4 bb #[.slice A nl cp] 40) := (hg.block bb (lt_of_heap (HX.out.below HB38.out)) (fun e => own_neP (HX.out.below HB38.out) (ownsRow_below HO.out HB38.out) e.symm rfl)).trans (HX.out.below HB38.out)
            have HK4 : Hid (KeepP wr w4) := (KeepP.below HB38.out).trans (KeepP.grown (ownsRow_below HO.out HB38.out) hg)
            have HB4 : Hid (Below n w0 w4) := (HB.out.trans (HB38.out.mono HN.out.2)).grown hg (Nat.le_trans HN.out.2 HB38.out.size) (fun q hq => ((ownsRow_below HO.out HB38.out).lt q hq).1)
            have HS4 : Hid (n ≤ w4.heap.size) := Nat.le_trans HN.out.2 (Nat.le_trans HB38.out.size hg.size)
            clear hown hg
            refine ⟨trivial, ?_⟩
            simp only [Act.put, List.setIfInBounds_toArray, List.set_cons_zero, List.set_cons_succ]
            refine' wpHX_askip (w' := w4.setCell ⟨bb, 0, none⟩ (.slice A4 (nl + 2) c4)) rfl (exec_storeP rfl ⟨bb, 0, none⟩ A4 (nl + 2) c4 rfl rfl (HX4.out.cell 0 _ rfl) (frozen_of_row _ _ _ _ _ HX4.out)) trivial ?_
            simp only [Act.put, List.setIfInBounds_toArray, List.set_cons_zero, List.set_cons_succ]
            refine wpHX_nil ?_
            go_wp2
            exact ⟨⟨j + 1, by omega, by go_num, HFIN.out A4 c4 w4 HB4.out HO4.out HX4.out HK4.out HS4.out⟩, by simp [intOf]; omega⟩
      --END
    · obtain rfl : j = r := by omega
      go_wp2
      refine bodyPost_end (results_none rfl _ _ _) rfl ?_
      exact ⟨rfl, hP.out.1, hP.out.2⟩
end Go.Proofs.YtmnlkganmgcpbaaGreatDoor
