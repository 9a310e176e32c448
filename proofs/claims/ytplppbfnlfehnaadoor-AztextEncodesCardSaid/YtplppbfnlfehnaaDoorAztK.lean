import Derived.Test.YtplppbfnlfehnaaDoorAztJ
namespace Go.Proofs.YtplppbfnlfehnaaDoor
open Go.RowKit
set_option linter.unusedVariables false
/-! the run in binary -/
def tryO (C : Nat → Nat → Nat) (num at_ m : Nat) (best : Opt) (n sz : Nat) (lg : Bool) : Opt :=
  if best.run = 0 ∨ Opt.tot C ⟨num, -1, n, lg, sz + 8 * n, at_ + n, m⟩ < best.tot C then ⟨num, -1, n, lg, sz + 8 * n, at_ + n, m⟩ else best
theorem optInfo : (Tryd.prog.info? 87).map (·.zero) = some (some (.agg #[.int .i64 0, .int .i64 0, .int .i64 0, .bool false, .int .i64 0, .int .i64 0, .int .i64 0])) := by kernel_rfl
theorem optSz : (Tryd.prog.info? 87).map (·.size) = some 7 := by kernel_rfl
theorem Opt.one (o : Opt) : ∀ v ∈ o.vals, v.oneCell' = true := by
  intro v hv
  simp only [Opt.vals, List.mem_cons, List.not_mem_nil, or_false] at hv
  rcases hv with rfl | rfl | rfl | rfl | rfl | rfl | rfl <;> rfl
/-- a new variable of an option is filled -/
theorem wpList_storeNew {P : Program} {w : World} {ops : Array Oper} {rest : List Oper} {o : Oper} {a : Act} {Q : Exit → Act → World → Prop} (hgd : o.guard = none) (ty : TypeId) (p x : Operand) (ho : o.op = .store ty p x)
    (t : TypeId) (cur : Array Value) (cs : List Value) (hp : a.eval p = .pointer (some ⟨w.heap.size, 0, none⟩)) (hx : a.eval x = .agg cs.toArray) (hi : (P.info? ty).map (·.size) = some cs.length)
    (hfit : cs.length = cur.size) (h1 : ∀ v ∈ cs, v.oneCell' = true)
    (hk : wpList P ops Q rest (a.put o.dst undef) (w.alloc (.cells cs.toArray t))) : wpList P ops Q (o :: rest) a (w.alloc (.cells cur t)) := by
  refine wpList_storeAgg hgd ty p x ho t w.heap.size 0 cur cs hp hx (heap_alloc_new _ _) hi (by omega) h1 ?_
  have e : (splice cur.toList 0 cs).toArray = cs.toArray := by
    unfold splice
    rw [List.take_zero, List.nil_append, List.drop_eq_nil_of_le (by simp [hfit]), List.append_nil]
  rw [e, World.setRow_alloc_new]
  exact hk
theorem RowIs.cells {w : World} {g : Nat} {l : List Value} {t : TypeId} (h : RowIs w g l.toArray t) : CellsAt w g l := by
  refine ⟨lt_of_heap h, fun i hi => ?_⟩
  rw [h.cell i (l.getD i undef) (by simp [List.getD, hi])]
theorem RowIs.new (w : World) (cs : Array Value) (t : TypeId) (b : Nat) (hb : b = w.heap.size) : RowIs (w.alloc (.cells cs t)) b cs t := by subst hb; exact heap_alloc_new _ _
theorem load_opt {W : World} {b : Nat} {o : Opt} (h : CellsAt W b o.vals) : ∀ j v, o.vals[j]? = some v → W.cell? ((⟨b, 0, none⟩ : Addr).add j) = some v := by
  intro j v hj
  have hl : j < o.vals.length := by
    rcases Nat.lt_or_ge j o.vals.length with h1 | h1
    · exact h1
    · rw [List.getElem?_eq_none h1] at hj; cases hj
  rw [add_plain, Nat.zero_add, h.2 j hl]
  simp [List.getD, hj]
theorem splice_all (a b : List Value) (h : b.length = a.length) : (splice a.toArray.toList 0 b).toArray = b.toArray := by
  unfold splice
  rw [List.take_zero, List.nil_append, List.drop_eq_nil_of_le (by simp [h]), List.append_nil]
theorem exec_loadOpt {a : Act} {o : Oper} {W : World} {b : Nat} {q : Operand} (ho : o.op = .load 87 q) (hp : a.eval q = .pointer (some ⟨b, 0, none⟩)) (x : Opt) (h : CellsAt W b x.vals) :
    (execOp a.eval o).run Tryd.prog W = .ok (.value x.val) W := by
  have hrun := run_loadVar_cells (P := Tryd.prog) W 87 _ ⟨b, 0, none⟩ x.vals Tryd.underlying87 rfl optSz (load_opt h)
  unfold execOp
  simp only [ho, hp, Instr.loadAt, Instr.sureAddr, Sem.run_bind, Sem.run_pure, Result.andThen_ok, hrun]
  rfl
set_option maxRecDepth 100000 in
set_option maxHeartbeats 2000000 in
theorem try_any (n sz num at_ m : Nat) (lg : Bool) (best : Opt) (w : World) (sb cb cap hb nb fb bb xb : Nat) (p : ByteArray) (C : Nat → Nat → Nat) (h : SW w sb cb cap hb p C)
    (hN : CellsAt w nb [.int .i64 (num : Int)]) (hF : CellsAt w fb [.int .i64 (at_ : Int), .int .i64 (m : Int)]) (hX : CellsAt w xb [.pointer (some ⟨sb, 0, none⟩)]) (hB : RowIs w bb best.vals.toArray 87)
    (h1 : at_ + n ≤ p.size) (h2 : m < 5) (h3 : sz ≤ 100) (h4 : best.at_ ≤ p.size) (h5 : best.mode < 5) (h6 : best.size ≤ 1073741824) (h7 : num < 32) (h8 : best.run ≤ 4096) :
    Calls Tryd.prog 67 #[.int .i64 (n : Int), .int .i64 (sz : Int), .bool lg, .pointer (some ⟨nb, 0, none⟩), .pointer (some ⟨fb, 0, none⟩), .pointer (some ⟨bb, 0, none⟩), .pointer (some ⟨xb, 0, none⟩)] w
      fun e w' => e = .returned (.tuple #[]) ∧ RowIs w' bb (tryO C num at_ m best n sz lg).vals.toArray 87 ∧ Below bb w w' := by
  have hp := h.hp
  have c1 := hN.2 0 (by simp)
  have c2 := hF.2 0 (by simp)
  have c3 := hF.2 1 (by simp)
  have c4 := hX.2 0 (by simp)
  simp only [List.getD, List.getElem?_cons_zero, List.getElem?_cons_succ, Option.getD_some] at c1 c2 c3 c4
  have HS := Lib.hid h
  have HB := Lib.hid hB
  have HL := Lib.hid hX.1
  have HX := Lib.hid hX
  have hw1 : IntKind.i64.wrap (8 * (n : Int)) = ((8 * n : Nat) : Int) := by rw [wr64 _ (by omega) (by omega)]; omega
  have hw2 : IntKind.i64.wrap ((sz : Int) + ((8 * n : Nat) : Int)) = ((sz + 8 * n : Nat) : Int) := by rw [wr64 _ (by omega) (by omega)]; omega
  have hw3 : IntKind.i64.wrap ((at_ : Int) + (n : Int)) = ((at_ + n : Nat) : Int) := by rw [wr64 _ (by omega) (by omega)]; omega
  obtain ⟨no, hno⟩ : ∃ no : Opt, no = ⟨num, -1, n, lg, sz + 8 * n, at_ + n, m⟩ := ⟨_, rfl⟩
  have HNO := Lib.hid hno
  have HTR : Hid (tryO C num at_ m best n sz lg = if best.run = 0 ∨ no.tot C < best.tot C then no else best) := by rw [hno]; rfl
  have hsz : Hid (no.at_ ≤ p.size ∧ no.mode < 5 ∧ no.size ≤ 1073741824) := by rw [hno]; exact ⟨h1, h2, by show sz + 8 * n ≤ _; omega⟩
  clear h hB hN hF hX hno
  go_enter Tryd.func67, Tryd.ntmps67
  go_wp2_with (first | (refine wpList_allocAgg rfl 87 rfl _ optInfo ?_) | (refine wpList_storeNew rfl 87 _ _ rfl 87 _ no.vals rfl (by rw [HNO.out]; rfl) optSz rfl no.one ?_))
  have CF : Hid (∀ W, Abv (w.alloc (.cells no.vals.toArray 87)) W → W.cell? ⟨bb, 2, none⟩ = some (.int .i64 (best.run : Int)) ∧ W.cell? ⟨xb, 0, none⟩ = some (.pointer (some ⟨sb, 0, none⟩))) := by
    show ∀ W, _
    intro W hW
    have hB := (HB.out.below (bwA w (.cells no.vals.toArray 87))).below hW
    have hX := ((HX.out.alloc (.cells no.vals.toArray 87)).below hW).2 0 (by simp)
    exact ⟨(opt_cells hB.cells).2.2.1, hX⟩
  have HC1 : Hid (∀ W, Abv (w.alloc (.cells no.vals.toArray 87)) W → CellsAt W w.heap.size no.vals) := fun W hW => ((RowIs.new w no.vals.toArray 87 _ rfl).cells).below hW
  have HC2 : Hid (∀ W, Abv (w.alloc (.cells no.vals.toArray 87)) W → CellsAt W bb best.vals) := fun W hW => ((HB.out.below (bwA w _)).below hW).cells
  have HS1 : Hid (∀ W, Abv (w.alloc (.cells no.vals.toArray 87)) W → SW W sb cb cap hb p C) := fun W hW => (HS.out.below (bwA w _)).below hW
  (try simp only [Act.put, List.setIfInBounds_toArray, List.set_cons_zero, List.set_cons_succ])
  by_cases hr : best.run = 0
  · have z1 : ((best.run : Int) == 0) = true := by rw [beq_iff_eq]; omega
    have HT : Hid (tryO C num at_ m best n sz lg = no) := by show _ = _; rw [HTR.out, if_pos (.inl hr)]
    refine wp_region_W (S := Abv (w.alloc (.cells no.vals.toArray 87))) [(false, 0), (false, 1), (false, 2), (false, 3), (false, 4), (false, 5), (false, 7), (false, 8), (true, 6), (true, 9), (false, 10), (false, 11)] (by kernel_rfl) (by kernel_rfl) (bwDrew (Below.refl _ _)) ?_
    simp only [attachW, List.getElem?_cons_zero, List.getElem?_cons_succ]
    repeat
      refine' wpHX_val rfl (fun W hW => ?_) ?_
      rotate_left
      · have hcf := CF.out W hW; go_simp; rfl
      simp only [Act.put, List.setIfInBounds_toArray, List.set_cons_zero, List.set_cons_succ]
    repeat (first | refine' wpHX_not rfl ?_ | refine' wpHX_anot rfl (bwDrew (Below.refl _ _)) ?_)
    repeat
      refine' wpHX_val rfl (fun W hW => ?_) ?_
      rotate_left
      · have hcf := CF.out W hW; go_simp; rfl
      simp only [Act.put, List.setIfInBounds_toArray, List.set_cons_zero, List.set_cons_succ]
    refine wpHX_nil ?_
    have HB3 : Hid (RowIs (w.alloc (.cells no.vals.toArray 87)).drew bb best.vals.toArray 87) := (HB.out.below (bwA w _)).below (bwDrew (Below.refl _ _))
    have HN3 : Hid (CellsAt (w.alloc (.cells no.vals.toArray 87)).drew w.heap.size no.vals) := (RowIs.new w no.vals.toArray 87 _ rfl).cells.below (bwDrew (Below.refl _ _))
    have HBB : Hid (Below w.heap.size w (w.alloc (.cells no.vals.toArray 87)).drew) := bwDrew (bwA w _)
    generalize (w.alloc (.cells no.vals.toArray 87)).drew = w5 at *
    have hbl : bb < w.heap.size := lt_of_heap HB.out
    go_wp2_with (first | (refine wpList_loadAgg rfl 87 _ rfl _ Tryd.underlying87 rfl ⟨w.heap.size, 0, none⟩ no.vals optSz rfl (load_opt HN3.out) ?_) | (refine wpList_storeAgg rfl 87 _ _ rfl 87 bb 0 best.vals.toArray no.vals rfl rfl HB3.out optSz (by show 7 ≤ 7; omega) no.one ?_; rw [splice_all best.vals no.vals (by rfl)]))
    refine bodyPost_end (results_none rfl _ _ _) rfl ?_
    rw [HT.out]
    exact ⟨rfl, HB3.out.set _, below_setRow (HBB.out.mono (by omega)) (Nat.le_refl _) _⟩
  · have z1 : ((best.run : Int) == 0) = false := by rw [beq_eq_false_iff_ne]; omega
    refine wp_region_W (S := Abv (w.alloc (.cells no.vals.toArray 87))) [(false, 0), (false, 1), (false, 2), (false, 3), (false, 4), (false, 5), (false, 7), (false, 8), (true, 6), (true, 9), (false, 10), (false, 11)] (by kernel_rfl) (by kernel_rfl) (bwDrew (Below.refl _ _)) ?_
    simp only [attachW, List.getElem?_cons_zero, List.getElem?_cons_succ]
    repeat
      first
      | refine' wpHX_val rfl (fun W hW => ?_) ?_
      | refine' wpHX_gval rfl (fun W hW => ?_) ?_
      rotate_left
      · have hcf := CF.out W hW; go_simp; rfl
      simp only [Act.put, List.setIfInBounds_toArray, List.set_cons_zero, List.set_cons_succ]
    refine' wpHX_gval rfl (fun W hW => exec_loadOpt rfl rfl no (HC1.out W hW)) ?_
    simp only [Act.put, List.setIfInBounds_toArray, List.set_cons_zero, List.set_cons_succ]
    repeat
      first
      | refine' wpHX_val rfl (fun W hW => ?_) ?_
      | refine' wpHX_gval rfl (fun W hW => ?_) ?_
      rotate_left
      · have hcf := CF.out W hW; go_simp; rfl
      simp only [Act.put, List.setIfInBounds_toArray, List.set_cons_zero, List.set_cons_succ]
    refine' wpHX_gval rfl (fun W hW => exec_loadOpt rfl rfl best (HC2.out W hW)) ?_
    simp only [Act.put, List.setIfInBounds_toArray, List.set_cons_zero, List.set_cons_succ]
    refine' wpHX_acall rfl (fun W => ?_) ?_
    rotate_left 2
    · go_simp; exact ⟨rfl, rfl⟩
    refine (total_any no _ sb cb cap hb p C (HS1.out _ (bwDrew (Below.refl _ _))) hsz.out.1 hsz.out.2.1 hsz.out.2.2).mono ?_
    rintro e w6 ⟨rfl, hb6⟩
    have HB6 : Hid (Abv (w.alloc (.cells no.vals.toArray 87)) w6) := (bwDrew (Below.refl _ _)).trans hb6
    clear hb6
    refine ⟨_, rfl, HB6.out, ?_⟩
    simp only [Act.put, List.setIfInBounds_toArray, List.set_cons_zero, List.set_cons_succ]
    refine' wpHX_acall rfl (fun W => ?_) ?_
    rotate_left 2
    · go_simp; exact ⟨rfl, rfl⟩
    refine (total_any best _ sb cb cap hb p C (HS1.out _ HB6.out) h4 h5 h6).mono ?_
    rintro e w7 ⟨rfl, hb7⟩
    have HB7 : Hid (Abv (w.alloc (.cells no.vals.toArray 87)) w7) := bwStep HB6.out hb7
    clear hb7
    refine ⟨_, rfl, HB7.out, ?_⟩
    simp only [Act.put, List.setIfInBounds_toArray, List.set_cons_zero, List.set_cons_succ]
    have HB3 : Hid (RowIs w7 bb best.vals.toArray 87) := (HB.out.below (bwA w (.cells no.vals.toArray 87))).below HB7.out
    have HN3 : Hid (CellsAt w7 w.heap.size no.vals) := HC1.out w7 HB7.out
    have HBB : Hid (Below w.heap.size w w7) := (bwA w _).trans (HB7.out.mono (by simp))
    have hbl : bb < w.heap.size := lt_of_heap HB.out
    by_cases ht : no.tot C < best.tot C
    · have HT : Hid (tryO C num at_ m best n sz lg = no) := by show _ = _; rw [HTR.out, if_pos (.inr ht)]
      repeat
        first
        | refine' wpHX_val rfl (fun W hW => ?_) ?_
        | refine' wpHX_gval rfl (fun W hW => ?_) ?_
        rotate_left
        · have hcf := CF.out W hW; go_simp; rfl
        simp only [Act.put, List.setIfInBounds_toArray, List.set_cons_zero, List.set_cons_succ]
      refine wpHX_nil ?_
      clear CF HC1 HC2 HS1 HTR
      generalize no.tot C = x1 at *
      generalize best.tot C = x2 at *
      go_wp2_with (first | (refine wpList_loadAgg rfl 87 _ rfl _ Tryd.underlying87 rfl ⟨w.heap.size, 0, none⟩ no.vals optSz rfl (load_opt HN3.out) ?_) | (refine wpList_storeAgg rfl 87 _ _ rfl 87 bb 0 best.vals.toArray no.vals rfl rfl HB3.out optSz (by show 7 ≤ 7; omega) no.one ?_; rw [splice_all best.vals no.vals (by rfl)]))
      refine bodyPost_end (results_none rfl _ _ _) rfl ?_
      rw [HT.out]
      exact ⟨rfl, HB3.out.set _, below_setRow (HBB.out.mono (by omega)) (Nat.le_refl _) _⟩
    · have HT : Hid (tryO C num at_ m best n sz lg = best) := by show _ = _; rw [HTR.out, if_neg (fun h => h.elim hr ht)]
      repeat
        first
        | refine' wpHX_val rfl (fun W hW => ?_) ?_
        | refine' wpHX_gval rfl (fun W hW => ?_) ?_
        rotate_left
        · have hcf := CF.out W hW; go_simp; rfl
        simp only [Act.put, List.setIfInBounds_toArray, List.set_cons_zero, List.set_cons_succ]
      refine wpHX_nil ?_
      clear CF HC1 HC2 HS1 HTR
      generalize no.tot C = x1 at *
      generalize best.tot C = x2 at *
      go_wp2
      refine bodyPost_end (results_none rfl _ _ _) rfl ?_
      rw [HT.out]
      exact ⟨rfl, HB3.out, HBB.out.mono (by omega)⟩
end Go.Proofs.YtplppbfnlfehnaaDoor
