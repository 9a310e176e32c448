import Derived.Test.YtmnlkganmgcpbaaGreatDoorQa4
namespace Go.Proofs.YtmnlkganmgcpbaaGreatDoor
open Go.RowKit
set_option linter.unusedVariables false
def tryO (C : Nat → Nat → Nat) (num at_ m : Nat) (best : Opt) (n sz : Nat) (lg : Bool) : Opt :=
  if best.run = 0 ∨ Opt.tot C ⟨num, -1, n, lg, sz + 8 * n, at_ + n, m⟩ < best.tot C then ⟨num, -1, n, lg, sz + 8 * n, at_ + n, m⟩ else best
theorem optInfo : (Tryz.prog.info? 181).map (·.zero) = some (some (.agg #[.int .i64 0, .int .i64 0, .int .i64 0, .bool false, .int .i64 0, .int .i64 0, .int .i64 0])) := by kernel_rfl
theorem optSz : (Tryz.prog.info? 181).map (·.size) = some 7 := by kernel_rfl
theorem Opt.one (o : Opt) : ∀ v ∈ o.vals, v.oneCell' = true := by
  intro v hv
  simp only [Opt.vals, List.mem_cons, List.not_mem_nil, or_false] at hv
  rcases hv with rfl | rfl | rfl | rfl | rfl | rfl | rfl <;> rfl
theorem wpList_storeNew {P : Program} {w : World} {ops : Array Oper} {rest : List Oper} {o : Oper} {a : Act} {Q : Exit → Act → World → Prop} (hgd : o.guard = none) (ty : TypeId) (p x : Operand) (ho : o.op = .store ty p x)
    (t : TypeId) (cur : Array Value) (cs : List Value) (hp : a.eval p = .pointer (some ⟨w.heap.size, 0, none⟩)) (hx : a.eval x = .agg cs.toArray) (hi : (P.info? ty).map (·.size) = some cs.length)
    (hfit : cs.length = cur.size) (h1 : ∀ v ∈ cs, v.oneCell' = true)
    (hk : wpList P ops Q rest (a.put o.dst undef) (w.alloc (.cells cs.toArray t))) : wpList P ops Q (o :: rest) a (w.alloc (.cells cur t)) := by
  refine wpList_storeAgg hgd ty p x ho t w.heap.size 0 cur cs hp hx (heap_alloc_new _ _) hi (by omega) h1 ?_
  have e : (splice cur.toList 0 cs).toArray = cs.toArray := by
    unfold splice
    rw [List.take_zero, List.nil_append, List.drop_eq_nil_of_le (by simp [hfit]), List.append_nil]
  rw [e, World.setRow_alloc_new]
  exact hk
theorem RowIs.cells {w : World} {g : Nat} {l : List Value} {t : TypeId} (h : RowIs w g l.toArray t) : CellsAt w g l := by
  refine ⟨lt_of_heap h, fun i hi => ?_⟩
  rw [h.cell i (l.getD i undef) (by simp [List.getD, hi])]
theorem RowIs.new (w : World) (cs : Array Value) (t : TypeId) (b : Nat) (hb : b = w.heap.size) : RowIs (w.alloc (.cells cs t)) b cs t := by subst hb; exact heap_alloc_new _ _
theorem load_opt {W : World} {b : Nat} {o : Opt} (h : CellsAt W b o.vals) : ∀ j v, o.vals[j]? = some v → W.cell? ((⟨b, 0, none⟩ : Addr).add j) = some v := by
  intro j v hj
  have hl : j < o.vals.length := by
    rcases Nat.lt_or_ge j o.vals.length with h1 | h1
    · exact h1
    · rw [List.getElem?_eq_none h1] at hj; cases hj
  rw [add_plain, Nat.zero_add, h.2 j hl]
  simp [List.getD, hj]
theorem splice_all (a b : List Value) (h : b.length = a.length) : (splice a.toArray.toList 0 b).toArray = b.toArray := by
  unfold splice
  rw [List.take_zero, List.nil_append, List.drop_eq_nil_of_le (by simp [h]), List.append_nil]
theorem exec_loadOpt {a : Act} {o : Oper} {W : World} {b : Nat} {q : Operand} (ho : o.op = .load 181 q) (hp : a.eval q = .pointer (some ⟨b, 0, none⟩)) (x : Opt) (h : CellsAt W b x.vals) :
    (execOp a.eval o).run Tryz.prog W = .ok (.value x.val) W := by
  have hrun := run_loadVar_cells (P := Tryz.prog) W 181 _ ⟨b, 0, none⟩ x.vals Tryz.underlying181 rfl optSz (load_opt h)
  unfold execOp
  simp only [ho, hp, Instr.loadAt, Instr.sureAddr, Sem.run_bind, Sem.run_pure, Result.andThen_ok, hrun]
  rfl
set_option maxRecDepth 100000 in
set_option maxHeartbeats 2000000 in
theorem try_any (n sz num at_ m : Nat) (lg : Bool) (best : Opt) (w : World) (sb cb cap hb nb fb bb xb : Nat) (p : ByteArray) (C : Nat → Nat → Nat) (h : SW w sb cb cap hb p C)
    (hN : CellsAt w nb [.int .i64 (num : Int)]) (hF : CellsAt w fb [.int .i64 (at_ : Int), .int .i64 (m : Int)]) (hX : CellsAt w xb [.pointer (some ⟨sb, 0, none⟩)]) (hB : RowIs w bb best.vals.toArray 181)
    (h1 : at_ + n ≤ p.size) (h2 : m < 5) (h3 : sz ≤ 100) (h4 : best.at_ ≤ p.size) (h5 : best.mode < 5) (h6 : best.size ≤ 1073741824) (h7 : num < 32) (h8 : best.run ≤ 4096) :
    Calls Tryz.prog 228 #[.int .i64 (n : Int), .int .i64 (sz : Int), .bool lg, .pointer (some ⟨nb, 0, none⟩), .pointer (some ⟨fb, 0, none⟩), .pointer (some ⟨bb, 0, none⟩), .pointer (some ⟨xb, 0, none⟩)] w
      fun e w' => e = .returned (.tuple #[]) ∧ RowIs w' bb (tryO C num at_ m best n sz lg).vals.toArray 181 ∧ Below bb w w' := by
  have hp := h.hp
  have c1 := hN.2 0 (by simp)
  have c2 := hF.2 0 (by simp)
  have c3 := hF.2 1 (by simp)
  have c4 := hX.2 0 (by simp)
  simp only [List.getD, List.getElem?_cons_zero, List.getElem?_cons_succ, Option.getD_some] at c1 c2 c3 c4
  have HS := Lib.hid h
  have HB := Lib.hid hB
  have HL := Lib.hid hX.1
  have HX := Lib.hid hX
  have hw1 : IntKind.i64.wrap (8 * (n : Int)) = ((8 * n : Nat) : Int) := by rw [wr64 _ (by omega) (by omega)]; omega
  have hw2 : IntKind.i64.wrap ((sz : Int) + ((8 * n : Nat) : Int)) = ((sz + 8 * n : Nat) : Int) := by rw [wr64 _ (by omega) (by omega)]; omega
  have hw3 : IntKind.i64.wrap ((at_ : Int) + (n : Int)) = ((at_ + n : Nat) : Int) := by rw [wr64 _ (by omega) (by omega)]; omega
  obtain ⟨no, hno⟩ : ∃ no : Opt, no = ⟨num, -1, n, lg, sz + 8 * n, at_ + n, m⟩ := ⟨_, rfl⟩
  have HNO := Lib.hid hno
  have HTR : Hid (tryO C num at_ m best n sz lg = if best.run = 0 ∨ no.tot C < best.tot C then no else best) := by rw [hno]; rfl
  have hsz : Hid (no.at_ ≤ p.size ∧ no.mode < 5 ∧ no.size ≤ 1073741824) := by rw [hno]; exact ⟨h1, h2, by show sz + 8 * n ≤ _; omega⟩
  clear h hB hN hF hX hno
  go_enter Tryz.func228, Tryz.ntmps228
  go_wp2_with (first | (refine wpList_allocAgg rfl 181 rfl _ optInfo ?_) | (refine wpList_storeNew rfl 181 _ _ rfl 181 _ no.vals rfl (by rw [HNO.out]; rfl) optSz rfl no.one ?_))
  have CF : Hid (∀ W, Abv (w.alloc (.cells no.vals.toArray 181)) W → W.cell? ⟨bb, 2, none⟩ = some (.int .i64 (best.run : Int)) ∧ W.cell? ⟨xb, 0, none⟩ = some (.pointer (some ⟨sb, 0, none⟩))) := by
    show ∀ W, _
    intro W hW
    have hB := (HB.out.below (bwA w (.cells no.vals.toArray 181))).below hW
    have hX := ((HX.out.alloc (.cells no.vals.toArray 181)).below hW).2 0 (by simp)
    exact ⟨(opt_cells hB.cells).2.2.1, hX⟩
  have HC1 : Hid (∀ W, Abv (w.alloc (.cells no.vals.toArray 181)) W → CellsAt W w.heap.size no.vals) := fun W hW => ((RowIs.new w no.vals.toArray 181 _ rfl).cells).below hW
  have HC2 : Hid (∀ W, Abv (w.alloc (.cells no.vals.toArray 181)) W → CellsAt W bb best.vals) := fun W hW => ((HB.out.below (bwA w _)).below hW).cells
  have HS1 : Hid (∀ W, Abv (w.alloc (.cells no.vals.toArray 181)) W → SW W sb cb cap hb p C) := fun W hW => (HS.out.below (bwA w _)).below hW
  (try simp only [Act.put, List.setIfInBounds_toArray, List.set_cons_zero, List.set_cons_succ])
  by_cases hr : best.run = 0
  · have z1 : ((best.run : Int) == 0) = true := by rw [beq_iff_eq]; omega
    have HT : Hid (tryO C num at_ m best n sz lg = no) := by show _ = _; rw [HTR.out, if_pos (.inl hr)]
    refine wp_region_W (S := Abv (w.alloc (.cells no.vals.toArray 181))) [(false, 0), (false, 1), (false, 2), (false, 3), (false, 4), (false, 5), (false, 7), (false, 8), (true, 6), (true, 9), (false, 10), (false, 11)] (by kernel_rfl) (by kernel_rfl) (bwDrew (Below.refl _ _)) ?_
    simp only [attachW, List.getElem?_cons_zero, List.getElem?_cons_succ]
    repeat
      refine' wpHX_val rfl (fun W hW => ?_) ?_
      rotate_left
      · have hcf := CF.out W hW; go_simp; rfl
      simp only [Act.put, List.setIfInBounds_toArray, List.set_cons_zero, List.set_cons_succ]
    repeat (first | refine' wpHX_not rfl ?_ | refine' wpHX_anot rfl (bwDrew (Below.refl _ _)) ?_)
    repeat
      refine' wpHX_val rfl (fun W hW => ?_) ?_
      rotate_left
      · have hcf := CF.out W hW; go_simp; rfl
      simp only [Act.put, List.setIfInBounds_toArray, List.set_cons_zero, List.set_cons_succ]
    refine wpHX_nil ?_
    have HB3 : Hid (RowIs (w.alloc (.cells no.vals.toArray 181)).drew bb best.vals.toArray 181) := (HB.out.below (bwA w _)).below (bwDrew (Below.refl _ _))
    have HN3 : Hid (CellsAt (w.alloc (.cells no.vals.toArray 181)).drew w.heap.size no.vals) := (RowIs.new w no.vals.toArray 181 _ rfl).cells.below (bwDrew (Below.refl _ _))
    have HBB : Hid (Below w.heap.size w (w.alloc (.cells no.vals.toArray 181)).drew) := bwDrew (bwA w _)
    generalize (w.alloc (.cells no.vals.toArray 181)).drew = w5 at *
    have hbl : bb < w.heap.size := lt_of_heap HB.out
    go_wp2_with (first | (refine wpList_loadAgg rfl 181 _ rfl _ Tryz.underlying181 rfl ⟨w.heap.size, 0, none⟩ no.vals optSz rfl (load_opt HN3.out) ?_) | (refine wpList_storeAgg rfl 181 _ _ rfl 181 bb 0 best.vals.toArray no.vals rfl rfl HB3.out optSz (by show 7 ≤ 7; omega) no.one ?_; rw [splice_all best.vals no.vals (by rfl)]))
    refine bodyPost_end (results_none rfl _ _ _) rfl ?_
    rw [HT.out]
    exact ⟨rfl, HB3.out.set _, below_setRow (HBB.out.mono (by omega)) (Nat.le_refl _) _⟩
  · have z1 : ((best.run : Int) == 0) = false := by rw [beq_eq_false_iff_ne]; omega
    refine wp_region_W (S := Abv (w.alloc (.cells no.vals.toArray 181))) [(false, 0), (false, 1), (false, 2), (false, 3), (false, 4), (false, 5), (false, 7), (false, 8), (true, 6), (true, 9), (false, 10), (false, 11)] (by kernel_rfl) (by kernel_rfl) (bwDrew (Below.refl _ _)) ?_
    simp only [attachW, List.getElem?_cons_zero, List.getElem?_cons_succ]
    repeat
      first
      | refine' wpHX_val rfl (fun W hW => ?_) ?_
      | refine' wpHX_gval rfl (fun W hW => ?_) ?_
      rotate_left
      · have hcf := CF.out W hW; go_simp; rfl
      simp only [Act.put, List.setIfInBounds_toArray, List.set_cons_zero, List.set_cons_succ]
    refine' wpHX_gval rfl (fun W hW => exec_loadOpt rfl rfl no (HC1.out W hW)) ?_
    simp only [Act.put, List.setIfInBounds_toArray, List.set_cons_zero, List.set_cons_succ]
    repeat
      first
      | refine' wpHX_val rfl (fun W hW => ?_) ?_
      | refine' wpHX_gval rfl (fun W hW => ?_) ?_
      rotate_left
      · have hcf := CF.out W hW; go_simp; rfl
      simp only [Act.put, List.setIfInBounds_toArray, List.set_cons_zero, List.set_cons_succ]
    refine' wpHX_gval rfl (fun W hW => exec_loadOpt rfl rfl best (HC2.out W hW)) ?_
    simp only [Act.put, List.setIfInBounds_toArray, List.set_cons_zero, List.set_cons_succ]
    refine' wpHX_acall rfl (fun W => ?_) ?_
    rotate_left 2
    · go_simp; exact ⟨rfl, rfl⟩
    refine (total_any no _ sb cb cap hb p C (HS1.out _ (bwDrew (Below.refl _ _))) hsz.out.1 hsz.out.2.1 hsz.out.2.2).mono ?_
    rintro e w6 ⟨rfl, hb6⟩
    have HB6 : Hid (Abv (w.alloc (.cells no.vals.toArray 181)) w6) := (bwDrew (Below.refl _ _)).trans hb6
    clear hb6
    refine ⟨_, rfl, HB6.out, ?_⟩
    simp only [Act.put, List.setIfInBounds_toArray, List.set_cons_zero, List.set_cons_succ]
    refine' wpHX_acall rfl (fun W => ?_) ?_
    rotate_left 2
    · go_simp; exact ⟨rfl, rfl⟩
    refine (total_any best _ sb cb cap hb p C (HS1.out _ HB6.out) h4 h5 h6).mono ?_
    rintro e w7 ⟨rfl, hb7⟩
    have HB7 : Hid (Abv (w.alloc (.cells no.vals.toArray 181)) w7) := bwStep HB6.out hb7
    clear hb7
    refine ⟨_, rfl, HB7.out, ?_⟩
    simp only [Act.put, List.setIfInBounds_toArray, List.set_cons_zero, List.set_cons_succ]
    have HB3 : Hid (RowIs w7 bb best.vals.toArray 181) := (HB.out.below (bwA w (.cells no.vals.toArray 181))).below HB7.out
    have HN3 : Hid (CellsAt w7 w.heap.size no.vals) := HC1.out w7 HB7.out
    have HBB : Hid (Below w.heap.size w w7) := (bwA w _).trans (HB7.out.mono (by simp))
    have hbl : bb < w.heap.size := lt_of_heap HB.out
    by_cases ht : no.tot C < best.tot C
    · have HT : Hid (tryO C num at_ m best n sz lg = no) := by show _ = _; rw [HTR.out, if_pos (.inr ht)]
      repeat
        first
        | refine' wpHX_val rfl (fun W hW => ?_) ?_
        | refine' wpHX_gval rfl (fun W hW => ?_) ?_
        rotate_left
        · have hcf := CF.out W hW; go_simp; rfl
        simp only [Act.put, List.setIfInBounds_toArray, List.set_cons_zero, List.set_cons_succ]
      refine wpHX_nil ?_
      clear CF HC1 HC2 HS1 HTR
      generalize no.tot C = x1 at *
      generalize best.tot C = x2 at *
      go_wp2_with (first | (refine wpList_loadAgg rfl 181 _ rfl _ Tryz.underlying181 rfl ⟨w.heap.size, 0, none⟩ no.vals optSz rfl (load_opt HN3.out) ?_) | (refine wpList_storeAgg rfl 181 _ _ rfl 181 bb 0 best.vals.toArray no.vals rfl rfl HB3.out optSz (by show 7 ≤ 7; omega) no.one ?_; rw [splice_all best.vals no.vals (by rfl)]))
      refine bodyPost_end (results_none rfl _ _ _) rfl ?_
      rw [HT.out]
      exact ⟨rfl, HB3.out.set _, below_setRow (HBB.out.mono (by omega)) (Nat.le_refl _) _⟩
    · have HT : Hid (tryO C num at_ m best n sz lg = best) := by show _ = _; rw [HTR.out, if_neg (fun h => h.elim hr ht)]
      repeat
        first
        | refine' wpHX_val rfl (fun W hW => ?_) ?_
        | refine' wpHX_gval rfl (fun W hW => ?_) ?_
        rotate_left
        · have hcf := CF.out W hW; go_simp; rfl
        simp only [Act.put, List.setIfInBounds_toArray, List.set_cons_zero, List.set_cons_succ]
      refine wpHX_nil ?_
      clear CF HC1 HC2 HS1 HTR
      generalize no.tot C = x1 at *
      generalize best.tot C = x2 at *
      go_wp2
      refine bodyPost_end (results_none rfl _ _ _) rfl ?_
      rw [HT.out]
      exact ⟨rfl, HB3.out, HBB.out.mono (by omega)⟩
end Go.Proofs.YtmnlkganmgcpbaaGreatDoor
namespace Go.Proofs.YtmnlkganmgcpbaaGreatDoor
open Go.RowKit
set_option linter.unusedVariables false
def bLong (C : Nat → Nat → Nat) (num at_ m : Nat) : Nat → Opt
  | 0 => ⟨0, 0, 0, false, 1073741824, at_, m⟩
  | k + 1 => tryO C num at_ m (bLong C num at_ m k) (31 + k) (widthN m + 16) true
def bShort (C : Nat → Nat → Nat) (num at_ m K : Nat) : Nat → Opt
  | 0 => bLong C num at_ m K
  | k + 1 => tryO C num at_ m (bShort C num at_ m K k) (1 + k) (widthN m + 5) false
def binOpt (C : Nat → Nat → Nat) (num at_ m left : Nat) : Opt := bShort C num at_ m (min left 2078 - 30) (min left 31)
def okO (p : ByteArray) (o : Opt) : Prop := o.at_ ≤ p.size ∧ o.mode < 5 ∧ o.size ≤ 1073741824 ∧ o.run ≤ 4096
theorem widthN_le (m : Nat) : widthN m ≤ 5 := by unfold widthN; split <;> omega
theorem tryO_ok {C : Nat → Nat → Nat} {num at_ m : Nat} {best : Opt} {n sz : Nat} {lg : Bool} {p : ByteArray} (h : okO p best) (h1 : at_ + n ≤ p.size) (h2 : m < 5) (h3 : sz ≤ 100) (hp : p.size ≤ 4096) : okO p (tryO C num at_ m best n sz lg) := by
  unfold tryO
  split
  · exact ⟨h1, h2, by show sz + 8 * n ≤ _; omega, by show n ≤ _; omega⟩
  · exact h
theorem bLong_ok {C : Nat → Nat → Nat} {num at_ m : Nat} {p : ByteArray} (ha : at_ ≤ p.size) (h2 : m < 5) (hp : p.size ≤ 4096) : ∀ k, at_ + 30 + k ≤ p.size ∨ k = 0 → okO p (bLong C num at_ m k)
  | 0, _ => ⟨ha, h2, Nat.le_refl _, by show 0 ≤ _; omega⟩
  | k + 1, h => tryO_ok (bLong_ok ha h2 hp k (by omega)) (by omega) h2 (by have := widthN_le m; omega) hp
theorem bShort_ok {C : Nat → Nat → Nat} {num at_ m : Nat} {p : ByteArray} (K : Nat) (ha : at_ ≤ p.size) (h2 : m < 5) (hp : p.size ≤ 4096) (hK : at_ + 30 + K ≤ p.size ∨ K = 0) : ∀ k, at_ + k ≤ p.size → okO p (bShort C num at_ m K k)
  | 0, _ => bLong_ok ha h2 hp K hK
  | k + 1, h => tryO_ok (bShort_ok K ha h2 hp hK k (by omega)) (by omega) h2 (by have := widthN_le m; omega) hp
structure FS (w wr : World) (sb cb cap hb : Nat) (p : ByteArray) (C : Nat → Nat → Nat) (num at_ m : Nat) : Prop where
  B : Below w.heap.size w wr
  S : SW wr sb cb cap hb p C
  X : CellsAt wr w.heap.size [.pointer (some ⟨sb, 0, none⟩)]
  F : CellsAt wr (w.heap.size + 1) [.int .i64 (at_ : Int), .int .i64 (m : Int)]
  N : CellsAt wr (w.heap.size + 2) [.int .i64 (num : Int)]
  Z : RowIs wr (w.heap.size + 3) (Opt.vals ⟨0, 0, 0, false, 0, 0, 0⟩).toArray 181
structure BS (w wr : World) (sb cb cap hb : Nat) (p : ByteArray) (C : Nat → Nat → Nat) (num at_ m : Nat) (best : Opt) : Prop extends FS w wr sb cb cap hb p C num at_ m where
  O : RowIs wr (w.heap.size + 4) best.vals.toArray 181
theorem FS.below {w wr w1 : World} {sb cb cap hb : Nat} {p : ByteArray} {C : Nat → Nat → Nat} {num at_ m : Nat} (h : FS w wr sb cb cap hb p C num at_ m) (hB : Below wr.heap.size wr w1) : FS w w1 sb cb cap hb p C num at_ m :=
  ⟨bwStep h.B hB, h.S.below hB, h.X.below hB, h.F.below hB, h.N.below hB, h.Z.below hB⟩
theorem wpList_allocAgg' {P : Program} {w : World} {ops : Array Oper} {rest : List Oper} {o : Oper} {a : Act} {Q : Exit → Act → World → Prop} (hgd : o.guard = none) (t : TypeId) (ho : o.op = .alloc t)
    (cs : Array Value) (hz : (P.info? t).map (·.zero) = some (some (.agg cs))) (g : Nat) (hg : g = w.heap.size)
    (hk : wpList P ops Q rest (a.put o.dst (.pointer (some ⟨g, 0, none⟩))) (w.alloc (.cells cs t))) : wpList P ops Q (o :: rest) a w := by
  subst hg
  exact wpList_allocAgg hgd t ho cs hz hk
theorem FS.start (w : World) (sb cb cap hb : Nat) (p : ByteArray) (C : Nat → Nat → Nat) (num at_ m : Nat) (t1 t2 t3 : TypeId) (h : SW w sb cb cap hb p C) :
    FS w ((((w.alloc (.cells #[.pointer (some ⟨sb, 0, none⟩)] t1)).alloc (.cells #[.int .i64 (at_ : Int), .int .i64 (m : Int)] t2)).alloc (.cells #[.int .i64 (num : Int)] t3)).alloc (.cells (Opt.vals ⟨0, 0, 0, false, 0, 0, 0⟩).toArray 181)) sb cb cap hb p C num at_ m := by
  refine ⟨bwAlloc (bwAlloc (bwAlloc (bwA _ _) _) _) _, (((h.below (bwA _ _)).below (bwA _ _)).below (bwA _ _)).below (bwA _ _), ?_, ?_, ?_, RowIs.new _ _ _ _ (by simp)⟩
  · exact ((CellsAt.new w #[.pointer (some ⟨sb, 0, none⟩)] t1 _ rfl).alloc _).alloc _ |>.alloc _
  · exact ((CellsAt.new (w.alloc _) #[.int .i64 (at_ : Int), .int .i64 (m : Int)] t2 (w.heap.size + 1) (by simp)).alloc _).alloc _
  · exact (CellsAt.new ((w.alloc _).alloc _) #[.int .i64 (num : Int)] t3 (w.heap.size + 2) (by simp)).alloc _
theorem CellsAt.lower {W W' : World} {b B : Nat} {vs : List Value} (h : CellsAt W b vs) (hb : Below B W W') (hl : b < B) : CellsAt W' b vs :=
  ⟨Nat.lt_of_lt_of_le h.1 hb.size, fun i hi => (hb.cell hl).trans (h.2 i hi)⟩
theorem RowIs.lower {W W' : World} {g B : Nat} {cur : Array Value} {t : TypeId} (h : RowIs W g cur t) (hb : Below B W W') (hl : g < B) : RowIs W' g cur t := (hb.block _ hl).trans h
theorem SW.lower {w W : World} {sb cb cap hb B : Nat} {p : ByteArray} {C : Nat → Nat → Nat} (h : SW w sb cb cap hb p C) (hW : Below B w W) (h1 : sb < B) (h2 : cb < B) : SW W sb cb cap hb p C :=
  ⟨Nat.lt_of_lt_of_le h.lt hW.size, (hW.cell h1).trans h.c0, fun i v hv => (hW.cell (p := ⟨sb, 1 + i, none⟩) h1).trans (h.ct i v hv), (hW.cell h1).trans h.cc, (hW.cell h1).trans h.cm, Nat.lt_of_lt_of_le h.cl hW.size,
    fun a m ha hm => (hW.cell h2).trans (h.cz a m ha hm), h.hc, h.hp, h.b⟩
theorem BS.step {w wr w1 : World} {sb cb cap hb : Nat} {p : ByteArray} {C : Nat → Nat → Nat} {num at_ m : Nat} {best o : Opt} (h : BS w wr sb cb cap hb p C num at_ m best) (h1 : sb < w.heap.size) (h2 : cb < w.heap.size)
    (hr : RowIs w1 (w.heap.size + 4) o.vals.toArray 181) (hB : Below (w.heap.size + 4) wr w1) : BS w w1 sb cb cap hb p C num at_ m o :=
  ⟨⟨h.B.trans (hB.mono (by omega)), h.S.lower hB (by omega) (by omega), h.X.lower hB (by omega), h.F.lower hB (by omega), h.N.lower hB (by omega), h.Z.lower hB (by omega)⟩, hr⟩
set_option maxRecDepth 100000 in
set_option maxHeartbeats 4000000 in
theorem binaryOption_any (num at_ m : Nat) (w : World) (sb cb cap hb : Nat) (p : ByteArray) (C : Nat → Nat → Nat) (h : SW w sb cb cap hb p C) (ha : at_ < p.size) (hm : m < 5) (hn : num < 32) :
    Calls Tryz.prog 216 #[.pointer (some ⟨sb, 0, none⟩), .agg #[.int .i64 (at_ : Int), .int .i64 (m : Int)], .int .i64 (num : Int)] w
      fun e w' => e = .returned (binOpt C num at_ m (p.size - at_)).val ∧ Below w.heap.size w w' := by
  have hp := h.hp
  have HS := Lib.hid h
  obtain ⟨h0, h1⟩ : w.cell? ⟨sb, 0, none⟩ = some (.string p) ∧ sb < w.heap.size := ⟨h.c0, h.lt⟩
  have hcb : cb < w.heap.size := h.cl
  obtain ⟨left, hl⟩ : ∃ left, left = p.size - at_ := ⟨_, rfl⟩
  have hw1 : IntKind.i64.wrap ((p.size : Int) - (at_ : Int)) = (left : Int) := by rw [wr64 _ (by omega) (by omega)]; omega
  have hl1 : at_ + left ≤ p.size := by omega
  have hl2 : 1 ≤ left := by omega
  have hl3 : left ≤ 4096 := by omega
  rw [← hl]
  clear hl h
  go_enter Tryz.func216, Tryz.ntmps216
  go_wp2_with (refine wpList_allocAgg' rfl 181 rfl _ optInfo (w.heap.size + 3) (by simp) ?_)
  have HF : Hid (FS w _ sb cb cap hb p C num at_ m) := FS.start w sb cb cap hb p C num at_ m 110 179 3 HS.out
  have hu : ((((w.alloc (.cells #[.pointer (some ⟨sb, 0, none⟩)] 110)).alloc (.cells #[.int .i64 (at_ : Int), .int .i64 (m : Int)] 179)).alloc (.cells #[.int .i64 (num : Int)] 3)).alloc (.cells (Opt.vals ⟨0, 0, 0, false, 0, 0, 0⟩).toArray 181)).heap.size = w.heap.size + 4 := by simp
  have HSZ := Lib.hid hu
  clear hu
  show Code.wp _ _ _ _ ((((w.alloc (.cells #[.pointer (some ⟨sb, 0, none⟩)] 110)).alloc (.cells #[.int .i64 (at_ : Int), .int .i64 (m : Int)] 179)).alloc (.cells #[.int .i64 (num : Int)] 3)).alloc (.cells (Opt.vals ⟨0, 0, 0, false, 0, 0, 0⟩).toArray 181))
  generalize (((w.alloc (.cells #[.pointer (some ⟨sb, 0, none⟩)] 110)).alloc (.cells #[.int .i64 (at_ : Int), .int .i64 (m : Int)] 179)).alloc (.cells #[.int .i64 (num : Int)] 3)).alloc (.cells (Opt.vals ⟨0, 0, 0, false, 0, 0, 0⟩).toArray 181) = w1 at *
  have CF : Hid (∀ W, Abv w1 W → W.cell? ⟨w.heap.size, 0, none⟩ = some (.pointer (some ⟨sb, 0, none⟩)) ∧ W.cell? ⟨sb, 0, none⟩ = some (.string p) ∧ W.cell? ⟨w.heap.size + 1, 0, none⟩ = some (.int .i64 (at_ : Int))) := by
    show ∀ W, _
    intro W hW
    have h9 := HF.out.below hW
    exact ⟨h9.X.2 0 (by simp), h9.S.c0, h9.F.2 0 (by simp)⟩
  (try simp only [Act.put, List.setIfInBounds_toArray, List.set_cons_zero, List.set_cons_succ])
  clear h0 HS
  refine wp_region_W (S := Abv w1) [(false, 0), (false, 1), (false, 2), (false, 3), (false, 4), (false, 5), (false, 6), (false, 7), (false, 8)] (by kernel_rfl) (by kernel_rfl) (bwDrew (Below.refl _ _)) ?_
  simp only [attachW, List.getElem?_cons_zero, List.getElem?_cons_succ]
  repeat
    refine' wpHX_val rfl (fun W hW => ?_) ?_
    rotate_left
    · have hcf := CF.out W hW; go_simp; rfl
    simp only [Act.put, List.setIfInBounds_toArray, List.set_cons_zero, List.set_cons_succ]
  refine wpHX_nil ?_
  clear CF
  have HF2 : Hid (FS w w1.drew sb cb cap hb p C num at_ m) := HF.out.below (bwDrew (Below.refl _ _))
  have HSZ2 : Hid (w1.drew.heap.size = w.heap.size + 4) := HSZ.out
  clear HF HSZ
  generalize w1.drew = w2 at *
  have f1 := HF2.out.F.2 0 (by simp)
  have f2 := HF2.out.F.2 1 (by simp)
  simp only [List.getD, List.getElem?_cons_zero, List.getElem?_cons_succ, Option.getD_some] at f1 f2
  have hwm := widthN_le m
  have HWM : Hid (∀ k, bLong C num at_ m (k + 1) = tryO C num at_ m (bLong C num at_ m k) (31 + k) (widthN m + 16) true) := fun k => rfl
  have HWS : Hid (∀ K k, bShort C num at_ m K (k + 1) = tryO C num at_ m (bShort C num at_ m K k) (1 + k) (widthN m + 5) false) := fun K k => rfl
  have HBI : Hid (binOpt C num at_ m left = bShort C num at_ m (min left 2078 - 30) (min left 31)) := rfl
  have HOL : Hid (∀ k, at_ + 30 + k ≤ p.size ∨ k = 0 → okO p (bLong C num at_ m k)) := bLong_ok (by omega) hm hp
  have HOS : Hid (∀ K, at_ + 30 + K ≤ p.size ∨ K = 0 → ∀ k, at_ + k ≤ p.size → okO p (bShort C num at_ m K k)) := fun K hK => bShort_ok K (by omega) hm hp hK
  go_wp2_with (first | (go_at_call 132; refine (numberBits_any m _).mono ?_; rintro e w' ⟨rfl, hw'⟩; rw [hw']; clear hw'; generalize widthN m = wm at *) | (refine wpList_allocAgg' rfl 181 rfl _ optInfo (w.heap.size + 4) HSZ2.out.symm ?_) | (rw [← HSZ2.out]; refine wpList_storeNew rfl 181 _ _ rfl 181 _ (Opt.vals ⟨0, 0, 0, false, 1073741824, at_, m⟩) rfl rfl optSz rfl (Opt.one _) ?_))
  rw [HSZ2.out]
  have HBS : Hid (BS w (w2.alloc (.cells (Opt.vals ⟨0, 0, 0, false, 1073741824, at_, m⟩).toArray 181)) sb cb cap hb p C num at_ m (bLong C num at_ m 0)) := ⟨HF2.out.below (bwA _ _), RowIs.new _ _ _ _ HSZ2.out.symm⟩
  clear HSZ2 HF2 f1 f2
  generalize w2.alloc (.cells (Opt.vals ⟨0, 0, 0, false, 1073741824, at_, m⟩).toArray 181) = w3 at *
  obtain ⟨K, hK⟩ : ∃ K, K = min left 2078 := ⟨_, rfl⟩
  have HK := Lib.hid hK
  have hK1 : K ≤ 2078 := by omega
  have hK2 : K ≤ left := by omega
  have hK3 : min (left : Int) 2078 = (K : Int) := by omega
  clear hK
  go_loopw [11] (fun iv wr => ∃ k : Nat, (31 + k ≤ K + 1 ∨ k = 0) ∧ iv = .int .i64 ((31 + k : Nat) : Int) ∧ Hid (BS w wr sb cb cap hb p C num at_ m (bLong C num at_ m k))) (fun iv _ => K + 1 - (intOf iv).toNat)
  case atStart => exact ⟨0, .inr rfl, rfl, HBS.out⟩
  case round =>
    clear HBS
    obtain ⟨k, hk, rfl, hB⟩ := hrel
    by_cases hlt : 31 + k ≤ K
    · have HOK : Hid (okO p (bLong C num at_ m k)) := HOL.out k (by omega)
      have HN := Lib.hid (HWM.out k)
      go_wp2_with (go_at_call 228; (refine (try_any (31 + k) (wm + 16) num at_ m true (bLong C num at_ m k) wr sb cb cap hb _ _ _ _ p C hB.out.S hB.out.N hB.out.F hB.out.X hB.out.O (by omega) hm (by omega) HOK.out.1 HOK.out.2.1 HOK.out.2.2.1 hn HOK.out.2.2.2).mono ?_; rintro e w6 ⟨rfl, hr6, hb6⟩; have HB6 := Lib.hid (hB.out.step h1 hcb hr6 hb6); clear hr6 hb6))
      refine ⟨⟨k + 1, by omega, by go_num, ?_⟩, by simp [intOf]; omega⟩
      rw [HN.out]
      exact HB6.out
    · have hk4 : k = K - 30 := by omega
      have HB0 : Hid (BS w wr sb cb cap hb p C num at_ m (bShort C num at_ m (K - 30) 0)) := by
        show BS _ _ _ _ _ _ _ _ _ _ _ (bLong C num at_ m (K - 30))
        rw [← hk4]; exact hB.out
      clear hB hk4 HOL HWM
      have hz1 : (K : Int) < ((31 + k : Nat) : Int) := by omega
      clear hlt hk
      generalize ((31 + k : Nat) : Int) = zz at *
      obtain ⟨L, hL⟩ : ∃ L, L = min left 31 := ⟨_, rfl⟩
      have HLL := Lib.hid hL
      have hL1 : L ≤ 31 := by omega
      have hL2 : L ≤ left := by omega
      have hL3 : min (left : Int) 31 = (L : Int) := by omega
      clear hL
      have HOS2 : Hid (∀ j, at_ + j ≤ p.size → okO p (bShort C num at_ m (K - 30) j)) := HOS.out (K - 30) (by omega)
      go_wp2
      clear hK3
      go_loopw [12] (fun iv wr => ∃ j : Nat, j ≤ L ∧ iv = .int .i64 ((1 + j : Nat) : Int) ∧ Hid (BS w wr sb cb cap hb p C num at_ m (bShort C num at_ m (K - 30) j))) (fun iv _ => L + 1 - (intOf iv).toNat)
      case atStart => exact ⟨0, by omega, rfl, HB0.out⟩
      case round =>
        clear HB0
        obtain ⟨j, hj, rfl, hB⟩ := hrel
        by_cases hlt2 : 1 + j ≤ L
        · have HOK : Hid (okO p (bShort C num at_ m (K - 30) j)) := HOS2.out j (by omega)
          have HN := Lib.hid (HWS.out (K - 30) j)
          go_wp2_with (go_at_call 228; (refine (try_any (1 + j) (wm + 5) num at_ m false (bShort C num at_ m (K - 30) j) wr sb cb cap hb _ _ _ _ p C hB.out.S hB.out.N hB.out.F hB.out.X hB.out.O (by omega) hm (by omega) HOK.out.1 HOK.out.2.1 HOK.out.2.2.1 hn HOK.out.2.2.2).mono ?_; rintro e w6 ⟨rfl, hr6, hb6⟩; have HB6 := Lib.hid (hB.out.step h1 hcb hr6 hb6); clear hr6 hb6))
          refine ⟨⟨j + 1, by omega, by go_num, ?_⟩, by simp [intOf]; omega⟩
          rw [HN.out]
          exact HB6.out
        · have hj4 : j = L := by omega
          have HR : Hid (BS w wr sb cb cap hb p C num at_ m (binOpt C num at_ m left)) := by
            have h9 := hB.out
            rw [hj4, HLL.out, HK.out, ← HBI.out] at h9
            exact h9
          clear hB hj4
          obtain ⟨res, hres⟩ : ∃ res, res = binOpt C num at_ m left := ⟨_, rfl⟩
          rw [← hres] at HR
          have HRES := Lib.hid hres
          clear hres
          go_wp2_with (first | (refine wpList_loadAgg rfl 181 _ rfl _ Tryz.underlying181 rfl ⟨w.heap.size + 4, 0, none⟩ res.vals optSz rfl (load_opt HR.out.O.cells) ?_) | (refine wpList_storeAgg rfl 181 _ _ rfl 181 (w.heap.size + 3) 0 _ res.vals rfl rfl HR.out.Z optSz (by show 7 ≤ 7; omega) res.one ?_; rw [splice_all _ res.vals (by rfl)]))
          (try simp only [Exit.inBlock, Exit.then])
          refine bodyPost_ret (results_cell_row rfl _ _ (w.heap.size + 3) 181 res.vals.toArray (0, 0) _ rfl (HR.out.Z.set _) Tryz.underlying181 rfl optSz) rfl ?_
          exact ⟨by rw [← HRES.out]; rfl, below_setRow HR.out.B (by omega) _⟩
end Go.Proofs.YtmnlkganmgcpbaaGreatDoor
