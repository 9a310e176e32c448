import Derived.Test.YtplppbfnlfehnaaDoorAztQ
import Derived.Test.YtplppbfnlfehnaaDoorTail4
import Derived.Laws.IdiomStrings
import Derived.Laws.Tables
namespace Go.Proofs.YtplppbfnlfehnaaDoor
open Go.RowKit Go.WideMaps Go.Maps
set_option linter.unusedVariables false
/-! newSearch -/
theorem overlay_size (off : Nat) : ∀ (T : List Value) (s : Nat) (cells : Array Value), ((T.zipIdx s).foldl (fun cs (x : Value × Nat) => cs.setIfInBounds (off + x.2) x.1) cells).size = cells.size
  | [], _, _ => rfl
  | x :: T, s, cells => by
    rw [List.zipIdx_cons, List.foldl_cons, overlay_size off T (s + 1)]
    simp
theorem overlay_get (off : Nat) : ∀ (ts : List Value) (s : Nat) (cells : Array Value) (i : Nat), off + s + ts.length ≤ cells.size →
    ((ts.zipIdx s).foldl (fun cs (x : Value × Nat) => cs.setIfInBounds (off + x.2) x.1) cells)[i]? = if off + s ≤ i ∧ i < off + s + ts.length then ts[i - (off + s)]? else cells[i]?
  | [], s, cells, i, _ => by rw [if_neg (by simp only [List.length_nil]; omega)]; rfl
  | x :: ts, s, cells, i, h => by
    rw [List.zipIdx_cons, List.foldl_cons, overlay_get off ts (s + 1) _ i (by simp only [List.length_cons] at h; simp; omega)]
    simp only [List.length_cons] at h ⊢
    by_cases h1 : i = off + s
    · subst h1
      rw [if_neg (by omega), if_pos (by omega), Nat.sub_self, List.getElem?_cons_zero, Array.getElem?_setIfInBounds_self_of_lt (by omega)]
    · by_cases h2 : off + (s + 1) ≤ i ∧ i < off + (s + 1) + ts.length
      · rw [if_pos h2, if_pos (by omega)]
        rw [show i - (off + s) = (i - (off + (s + 1))) + 1 from by omega, List.getElem?_cons_succ]
      · rw [if_neg h2, if_neg (by omega)]
        rw [Array.getElem?_setIfInBounds_ne (by omega)]
def zSearch : Array Value := (Value.string ByteArray.empty :: zeroTab.toList ++ [Value.slice none 0 0, Value.map none]).toArray
theorem zSearch_fact : (Tryd.prog.info? 68).map (·.zero) = some (some (.agg zSearch)) := by kernel_rfl
theorem zSearch_size : zSearch.size = 483 := by kernel_rfl
theorem searchFields : (Tryd.prog.underlying 68).map (fun d => match d with | .struct fields => fields.toList.mapM (fun f => (Tryd.prog.info? f.type).map fun i => (f.offset, i.size)) | _ => none) = some (some [(0, 1), (1, 480), (481, 1), (482, 1)]) := by kernel_rfl
theorem fold_one (off : Nat) (Z : Array Value) (v : Value) : Array.foldl (fun cs (x : Value × Nat) => cs.setIfInBounds (off + x.2) x.1) Z #[v].zipIdx = Z.setIfInBounds off v := rfl
theorem built_search (p : ByteArray) (s m : Value) (hs : s.cells = #[s]) (hm : m.cells = #[m]) : ∃ R : Array Value, Tryd.prog.built 68 [(0, .string p), (1, .agg theTab), (2, s), (3, m)] = some R ∧ R.size = 483 ∧ R[0]? = some (.string p) ∧ (∀ i v, theTab[i]? = some v → R[1 + i]? = some v) ∧ R[481]? = some s ∧ R[482]? = some m := by
  have hz := zSearch_fact
  have hf := searchFields
  have hzs := zSearch_size
  have hts := theTab_size
  generalize zSearch = Z at *
  generalize theTab = Tb at *
  cases hi : Tryd.prog.info? 68 with
  | none => rw [hi] at hz; cases hz
  | some it =>
    cases hu : Tryd.prog.underlying 68 with
    | none => rw [hu] at hf; cases hf
    | some d =>
      rw [hi] at hz
      rw [hu] at hf
      have hz' : it.zero = some (.agg Z) := Option.some.inj hz
      have hf' := Option.some.inj hf
      cases d <;> (try (simp at hf'; done))
      rename_i fields
      simp only at hf'
      unfold Program.built
      rw [hi, hu]
      simp only [hz', hf']
      have e0 : (Value.string p).cells = #[.string p] := rfl
      have e1 : (Value.agg Tb).cells = Tb := rfl
      have e2 : (Value.agg Z).cells = Z := rfl
      have k1 : (Z.setIfInBounds 0 (.string p)).size = 483 := by simp [hzs]
      have key : ∀ (Y : Array Value), Y.size = 483 → (Tb.zipIdx.foldl (fun cs (x : Value × Nat) => cs.setIfInBounds (1 + x.2) x.1) Y).size = 483 ∧ ∀ i, (Tb.zipIdx.foldl (fun cs (x : Value × Nat) => cs.setIfInBounds (1 + x.2) x.1) Y)[i]? = if 1 ≤ i ∧ i < 481 then Tb[i - 1]? else Y[i]? := by
        intro Y hY
        have hl : Tb.toList.length = 480 := by rw [Array.length_toList]; exact hts
        have ef : Tb.zipIdx.foldl (fun cs (x : Value × Nat) => cs.setIfInBounds (1 + x.2) x.1) Y = (Tb.toList.zipIdx 0).foldl (fun cs (x : Value × Nat) => cs.setIfInBounds (1 + x.2) x.1) Y := by
          rw [← Array.foldl_toList, Array.toList_zipIdx]
        rw [ef]
        refine ⟨by rw [overlay_size]; exact hY, fun i => ?_⟩
        rw [overlay_get 1 Tb.toList 0 Y i (by rw [hl, hY]; omega), hl]
        simp only [Nat.add_zero, Array.getElem?_toList]
      have k2 := key _ k1
      simp only [Instr.fill, List.getElem?_toArray, List.getElem?_cons_zero, List.getElem?_cons_succ, e0, e1, e2, hs, hm, List.size_toArray, List.length_cons, List.length_nil, hts, hzs, ne_eq, not_true_eq_false, decide_false, Bool.false_or]
      rw [fold_one, fold_one, fold_one]
      obtain ⟨Y, hY⟩ : ∃ Y, Y = Array.foldl (fun cs (x : Value × Nat) => cs.setIfInBounds (1 + x.2) x.1) (Z.setIfInBounds 0 (.string p)) Tb.zipIdx := ⟨_, rfl⟩
      rw [← hY] at k2 ⊢
      have k3 : (Y.setIfInBounds 481 s).size = 483 := by simp [k2.1]
      rw [if_neg (by simp), if_neg (by rw [k1]; simp), if_neg (by rw [k2.1]; simp), if_neg (by rw [k3]; simp)]
      refine ⟨_, rfl, by simp [k2.1], ?_, fun i v hv => ?_, ?_, ?_⟩
      · rw [Array.getElem?_setIfInBounds_ne (by omega), Array.getElem?_setIfInBounds_ne (by omega), k2.2, if_neg (by omega)]
        simp [hzs]
      · have hi : i < 480 := by rw [← hts]; exact (Array.getElem?_eq_some_iff.1 hv).1
        rw [Array.getElem?_setIfInBounds_ne (by omega), Array.getElem?_setIfInBounds_ne (by omega), k2.2, if_pos (by omega), Nat.add_sub_cancel_left]
        exact hv
      · rw [Array.getElem?_setIfInBounds_ne (by omega)]
        simp [k2.1]
      · simp [k2.1]
theorem exec_convB {a : Act} {o : Oper} {W : World} {x : Operand} (ho : o.op = .convert 22 9 x) {A : Option Addr} {n c : Nat} {l : List UInt8} (hx : a.eval x = .slice A n c) (h : SR vU 0 W A n c l) :
    (execOp a.eval o).run Tryd.prog W = .ok (.value (.string ⟨l.toArray⟩)) W := by
  have hn := h.hn
  have hrun : (convert 22 9 (.slice A n c)).run Tryd.prog W = .ok (.string ⟨l.toArray⟩) W := by
    rcases Nat.eq_zero_or_pos l.length with h0 | h0
    · have hl : l = [] := List.eq_nil_of_length_eq_zero h0
      subst hl
      rw [hn]
      cases A with
      | none => rw [run_convert_bytes_string W _ _ 5 _ _ _ Tryd.underlying22 Tryd.underlying5 Tryd.underlying9]; rfl
      | some ad => exact run_convert_bytes_back W _ _ 5 ad c [] Tryd.underlying22 Tryd.underlying5 Tryd.underlying9 (fun j hj => by simp at hj)
    · obtain ⟨ad, rfl, _, hc⟩ := h.rd h0
      rw [hn]
      exact run_convert_bytes_back W _ _ 5 ad c l Tryd.underlying22 Tryd.underlying5 Tryd.underlying9 (fun j hj => by rw [hc j hj]; simp [List.getD, hj])
  unfold execOp
  simp only [ho, hx, hrun, Sem.run_bind, Sem.run_pure, Result.andThen_ok]
/-- the costs as they are made -/
def MadeC (W : World) (cb n : Nat) : Prop := ∃ cur t, W.heap[cb]? = some (.cells cur t (0, 0)) ∧ ∀ i, i < 5 * (n + 1) → cur[i]? = some (.int .i64 0)
theorem MadeC.below {W W' : World} {cb n : Nat} (h : MadeC W cb n) (hb : Below W.heap.size W W') : MadeC W' cb n := by
  obtain ⟨cur, t, h1, h2⟩ := h
  exact ⟨cur, t, (hb.block _ (lt_of_heap h1)).trans h1, h2⟩
theorem arrInfo : (Tryd.prog.info? 56).map (fun i => (i.zero, i.size, i.bytes)) = some (some (.agg #[.int .i64 0, .int .i64 0, .int .i64 0, .int .i64 0, .int .i64 0]), 5, 40) := by kernel_rfl
theorem exec_makeC {a : Act} {o : Oper} {W : World} {l c : Operand} (ho : o.op = .makeSlice 65 l c) (n : Nat) (hn : n ≤ 4096) (hl : a.eval l = .int .i64 ((n + 1 : Nat) : Int)) (hc : a.eval c = .int .i64 ((n + 1 : Nat) : Int)) :
    ∃ W', (execOp a.eval o).run Tryd.prog W = .ok (.value (.slice (some ⟨W.heap.size, 0, none⟩) (n + 1) (n + 1))) W' ∧ MadeC W' W.heap.size n ∧ Below W.heap.size W W' := by
  obtain ⟨i0, hi, hz0, hz1, hz2⟩ := info_parts arrInfo
  have hr := run_make (P := Tryd.prog) W 65 56 i0 _ Tryd.underlying65 hi hz0 .i64 .i64 ((n + 1 : Nat) : Int) ((n + 1 : Nat) : Int) (by omega) (Int.le_refl _) (by rw [hz2]; omega) (by omega)
  simp only [Int.toNat_natCast] at hr
  rw [hz1] at hr
  have hrun : (execOp a.eval o).run Tryd.prog W = .ok (.value (.slice (some ⟨W.heap.size, 0, none⟩) (n + 1) (n + 1))) (W.alloc (.cells (madeCells #[Value.int .i64 0, .int .i64 0, .int .i64 0, .int .i64 0, .int .i64 0] ((n + 1) * 5)) 56)) := by
    unfold execOp
    simp only [ho, hl, hc, hr, Sem.run_bind, Sem.run_pure, Result.andThen_ok]
    rfl
  refine ⟨_, hrun, ⟨_, _, heap_alloc_new W _, fun i hi => ?_⟩, bwA _ _⟩
  unfold madeCells
  rw [Array.getElem?_map, Array.getElem?_range, if_pos (by omega)]
  have h5 : i % 5 = 0 ∨ i % 5 = 1 ∨ i % 5 = 2 ∨ i % 5 = 3 ∨ i % 5 = 4 := by omega
  show some (#[Value.int .i64 0, .int .i64 0, .int .i64 0, .int .i64 0, .int .i64 0][i % 5]!) = _
  rcases h5 with h | h | h | h | h <;> rw [h] <;> rfl
theorem exec_makeM {a : Act} {o : Oper} {W : World} (ho : o.op = .makeMap 66 none) :
    (execOp a.eval o).run Tryd.prog W = .ok (.value (.map (some W.heap.size))) (W.alloc (.map #[] 0)) ∧ MapIs (W.alloc (.map #[] 0)) W.heap.size 0 (fun _ _ => none) := by
  refine ⟨?_, .map [], Maps.isMap_empty, World.ownsMap_made _ _ _ _, fun a m o _ _ h => by cases h⟩
  unfold execOp
  simp only [ho, Sem.run_bind, Sem.run_pure]
  rfl
theorem exec_buildS {a : Act} {o : Oper} {W : World} {x0 x1 x2 x3 : Operand} (ho : o.op = .build 68 #[(0, x0), (1, x1), (2, x2), (3, x3)]) {p : ByteArray} {A : Option Addr} {n c : Nat} {mb : Option Nat}
    (h0 : a.eval x0 = .string p) (h1 : a.eval x1 = .agg theTab) (h2 : a.eval x2 = .slice A n c) (h3 : a.eval x3 = .map mb) (R : Array Value) (hR : Tryd.prog.built 68 [(0, .string p), (1, .agg theTab), (2, .slice A n c), (3, .map mb)] = some R) :
    (execOp a.eval o).run Tryd.prog W = .ok (.value (.agg R)) W := by
  have hrun := run_build (P := Tryd.prog) W 68 #[(0, .string p), (1, .agg theTab), (2, .slice A n c), (3, .map mb)] R hR
  unfold execOp
  simp only [ho, List.map_toArray, List.map_cons, List.map_nil, h0, h1, h2, h3, hrun, Sem.run_bind, Sem.run_pure, Result.andThen_ok]
theorem exec_boxS {a : Act} {o : Oper} {W : World} {x : Operand} (ho : o.op = .box 68 x) {R : Array Value} (hx : a.eval x = .agg R) :
    (execOp a.eval o).run Tryd.prog W = .ok (.value (.pointer (some ⟨W.heap.size, 0, none⟩))) (W.alloc (.cells R 68)) := by
  unfold execOp
  simp only [ho, hx, Instr.box, newVar, newRow, Value.cells, Sem.run_bind, Sem.run_pure]
  rfl
end Go.Proofs.YtplppbfnlfehnaaDoor
