import Derived.Test.YtplppbfnlfehnaaDoorAztG
import Derived.Laws.CopyRow
import Derived.Laws.CopyOwn
import Derived.Deep.WholeRow
namespace Go.Proofs.YtplppbfnlfehnaaDoor
open Go.RowKit
set_option linter.unusedVariables false
/-! arrays and structs as whole values: the operations' laws -/
section
variable {P : Program}
def aggD (d : TypeDesc) : Bool := match d with | .struct _ | .array _ _ => true | _ => false
theorem run_isAgg' (w : World) (t : TypeId) (d : TypeDesc) (hu : P.underlying t = some d) (hd : aggD d = true) : (isAgg t).run P w = .ok true w := by
  unfold isAgg
  rw [Sem.run_bind, run_underlying hu]
  cases d <;> simp_all [aggD, Result.andThen]
theorem run_loadVar_cells (w : World) (t : TypeId) (d : TypeDesc) (a : Addr) (cs : List Value) (hu : P.underlying t = some d) (hd : aggD d = true) (hi : (P.info? t).map (·.size) = some cs.length)
    (h : ∀ j v, cs[j]? = some v → w.cell? (a.add j) = some v) : (loadVar t a).run P w = .ok (.agg cs.toArray) w := by
  have hl := run_loadCells_list (P := P) w a cs h
  cases hq : P.info? t with
  | none => simp [hq] at hi
  | some i =>
    have hs : i.size = cs.length := by simp [hq] at hi; exact hi
    unfold loadVar
    rw [Sem.run_bind, run_isAgg' w t d hu hd]
    simp [Result.andThen, sizeOf, typeInfo, hq, hs, hl]
theorem run_storeVar_part (w : World) (t ty : TypeId) (g o : Nat) (cur : Array Value) (cs : List Value) (hg : w.heap[g]? = some (.cells cur t (0, 0))) (hi : (P.info? ty).map (·.size) = some cs.length)
    (hfit : o + cs.length ≤ cur.size) (h1 : ∀ v ∈ cs, v.oneCell' = true) :
    (storeVar ty ⟨g, o, none⟩ (.agg cs.toArray)).run P w = .ok () (w.setRow g (splice cur.toList o cs).toArray) := by
  have hst := run_storeCells_at (P := P) g o t cs 0 cur w hg (by simpa using hfit) h1
  cases hq : P.info? ty with
  | none => simp [hq] at hi
  | some i =>
    have hs : i.size = cs.length := by simp [hq] at hi; exact hi
    unfold splice
    simp only [Nat.add_zero, List.append_assoc] at hst
    simp [storeVar, sizeOf, typeInfo, hq, Value.cells, hs, hst]
theorem wpList_loadAgg {w : World} {ops : Array Oper} {rest : List Oper} {o : Oper} {a : Act} {Q : Exit → Act → World → Prop} (hgd : o.guard = none) (t : TypeId) (p : Operand) (ho : o.op = .load t p)
    (d : TypeDesc) (hu : P.underlying t = some d) (hd : aggD d = true) (ad : Addr) (cs : List Value) (hi : (P.info? t).map (·.size) = some cs.length) (hp : a.eval p = .pointer (some ad))
    (h : ∀ j v, cs[j]? = some v → w.cell? (ad.add j) = some v) (hk : wpList P ops Q rest (a.put o.dst (.agg cs.toArray)) w) : wpList P ops Q (o :: rest) a w := by
  refine wpList_plain hgd fun K hK => ?_
  have hrun := run_loadVar_cells (P := P) w t d ad cs hu hd hi h
  unfold Oper.wp execOp
  simp only [ho, hp, Instr.loadAt, Instr.sureAddr, Sem.run_bind, Sem.run_pure, Result.andThen_ok, hrun]
  exact hK _ _ hk
theorem wpList_storeAgg {w : World} {ops : Array Oper} {rest : List Oper} {o : Oper} {a : Act} {Q : Exit → Act → World → Prop} (hgd : o.guard = none) (ty : TypeId) (p x : Operand) (ho : o.op = .store ty p x)
    (t : TypeId) (g f : Nat) (cur : Array Value) (cs : List Value) (hp : a.eval p = .pointer (some ⟨g, f, none⟩)) (hx : a.eval x = .agg cs.toArray) (hg : w.heap[g]? = some (.cells cur t (0, 0))) (hi : (P.info? ty).map (·.size) = some cs.length)
    (hfit : f + cs.length ≤ cur.size) (h1 : ∀ v ∈ cs, v.oneCell' = true)
    (hk : wpList P ops Q rest (a.put o.dst undef) (w.setRow g (splice cur.toList f cs).toArray)) : wpList P ops Q (o :: rest) a w := by
  refine wpList_plain hgd fun K hK => ?_
  have hrun := run_storeVar_part (P := P) w t ty g f cur cs hg hi hfit h1
  unfold Oper.wp execOp
  simp only [ho, hp, hx, Instr.storeAt, Instr.sureAddr, Sem.run_bind, Sem.run_pure, Result.andThen_ok, hrun]
  exact hK _ _ hk
theorem run_part_agg (w : World) (t : TypeId) (d : TypeDesc) (cs : Array Value) (o n : Nat) (hu : P.underlying t = some d) (hd : aggD d = true) (hi : (P.info? t).map (·.size) = some n) :
    (part t cs o).run P w = .ok (.agg (cs.extract o (o + n))) w := by
  cases hq : P.info? t with
  | none => simp [hq] at hi
  | some i =>
    have hs : i.size = n := by simp [hq] at hi; exact hi
    unfold part
    rw [Sem.run_bind, run_isAgg' w t d hu hd]
    simp [Result.andThen, sizeOf, typeInfo, hq, hs]
theorem wpList_indexAgg {w : World} {ops : Array Oper} {rest : List Oper} {o : Oper} {a : Act} {Q : Exit → Act → World → Prop} (hgd : o.guard = none) (t : TypeId) (x i : Operand) (ho : o.op = .index t x i)
    (len : Nat) (e : TypeId) (hu : P.underlying t = some (.array len e)) (d : TypeDesc) (hue : P.underlying e = some d) (hd : aggD d = true) (n : Nat) (hi : (P.info? e).map (·.size) = some n)
    (cs : Array Value) (k : IntKind) (I : Int) (j : Nat) (hx : a.eval x = .agg cs) (hI : a.eval i = .int k I) (hj : I = (j : Int)) (hlt : j < len) (vs : Array Value) (hvs : cs.extract (j * n) (j * n + n) = vs)
    (hk : wpList P ops Q rest (a.put o.dst (.agg vs)) w) : wpList P ops Q (o :: rest) a w := by
  refine wpList_plain hgd fun K hK => ?_
  subst hj hvs
  have hrun := run_part_agg (P := P) w e d cs (j * n) n hue hd hi
  have hsz : (sizeOf e).run P w = .ok n w := by
    cases hq : P.info? e with
    | none => simp [hq] at hi
    | some q => simp [hq] at hi; simp [sizeOf, typeInfo, hq, hi]
  have hc : (0 : Int) ≤ (j : Int) ∧ (j : Int) < (len : Int) := by omega
  unfold Oper.wp execOp
  simp only [ho, hx, hI, Instr.index, asIntOf, Sem.run_bind, Sem.run_pure, Result.andThen_ok, run_underlying hu, if_pos hc, hsz, Int.toNat_natCast, hrun]
  exact hK _ _ hk
/-- a new variable of an array's or struct's type -/
theorem wpList_allocAgg {w : World} {ops : Array Oper} {rest : List Oper} {o : Oper} {a : Act} {Q : Exit → Act → World → Prop} (hgd : o.guard = none) (t : TypeId) (ho : o.op = .alloc t)
    (cs : Array Value) (hz : (P.info? t).map (·.zero) = some (some (.agg cs)))
    (hk : wpList P ops Q rest (a.put o.dst (.pointer (some ⟨w.heap.size, 0, none⟩))) (w.alloc (.cells cs t))) : wpList P ops Q (o :: rest) a w := by
  refine wpList_plain hgd fun K hK => ?_
  cases hq : P.info? t with
  | none => simp [hq] at hz
  | some i =>
    have hz' : i.zero = some (.agg cs) := by simpa [hq] using hz
    unfold Oper.wp execOp
    simp only [ho]
    have hrun : (Instr.alloc t true (.tuple #[])).run P w = .ok (.pointer (some ⟨w.heap.size, 0, none⟩)) (w.alloc (.cells cs t)) := by
      simp [Instr.alloc, zeroValue, typeInfo, hq, hz', newVar, newRow, Value.cells]
    simp only [Sem.run_bind, Sem.run_pure, Result.andThen_ok, hrun]
    exact hK _ _ hk
theorem wpList_indexOne {w : World} {ops : Array Oper} {rest : List Oper} {o : Oper} {a : Act} {Q : Exit → Act → World → Prop} (hgd : o.guard = none) (t : TypeId) (x i : Operand) (ho : o.op = .index t x i)
    (len : Nat) (e : TypeId) (hu : P.underlying t = some (.array len e)) (d : TypeDesc) (hue : P.underlying e = some d) (hd : aggD d = false) (hi : (P.info? e).map (·.size) = some 1)
    (cs : Array Value) (k : IntKind) (I : Int) (j : Nat) (hx : a.eval x = .agg cs) (hI : a.eval i = .int k I) (hj : I = (j : Int)) (hlt : j < len) (v : Value) (hv : cs[j]? = some v)
    (hk : wpList P ops Q rest (a.put o.dst v) w) : wpList P ops Q (o :: rest) a w := by
  refine wpList_plain hgd fun K hK => ?_
  subst hj
  have hag : (isAgg e).run P w = .ok false w := by
    unfold isAgg
    rw [Sem.run_bind, run_underlying hue]
    cases d <;> simp_all [aggD, Result.andThen]
  have hsz : (sizeOf e).run P w = .ok 1 w := by
    cases hq : P.info? e with
    | none => simp [hq] at hi
    | some q => simp [hq] at hi; simp [sizeOf, typeInfo, hq, hi]
  have hrun : (part e cs (j * 1)).run P w = .ok v w := by
    unfold part
    rw [Sem.run_bind, hag]
    simp [Result.andThen, hv]
  have hc : (0 : Int) ≤ (j : Int) ∧ (j : Int) < (len : Int) := by omega
  unfold Oper.wp execOp
  simp only [ho, hx, hI, Instr.index, asIntOf, Sem.run_bind, Sem.run_pure, Result.andThen_ok, run_underlying hu, if_pos hc, hsz, Int.toNat_natCast, hrun]
  exact hK _ _ hk
end
/-! rows that are written part by part -/
def RowIs (w : World) (g : Nat) (cur : Array Value) (t : TypeId) : Prop := w.heap[g]? = some (.cells cur t (0, 0))
theorem RowIs.below {W W' : World} {g : Nat} {cur : Array Value} {t : TypeId} (h : RowIs W g cur t) (hb : Below W.heap.size W W') : RowIs W' g cur t := (hb.block _ (lt_of_heap h)).trans h
theorem RowIs.cell {w : World} {g : Nat} {cur : Array Value} {t : TypeId} (h : RowIs w g cur t) (j : Nat) (v : Value) (hv : cur[j]? = some v) : w.cell? ⟨g, j, none⟩ = some v := by
  rw [cell_of_row _ _ j cur t (0, 0) h]; exact hv
theorem RowIs.set {w : World} {g : Nat} {cur : Array Value} {t : TypeId} (h : RowIs w g cur t) (c' : Array Value) : RowIs (w.setRow g c') g c' t := setRow_heap w g cur c' t (0, 0) h
theorem RowIs.other {w : World} {g g' : Nat} {cur : Array Value} {t : TypeId} (h : RowIs w g cur t) (c' : Array Value) (hne : g ≠ g') : RowIs (w.setRow g' c') g cur t := (setRow_other w g' g c' hne).trans h
end Go.Proofs.YtplppbfnlfehnaaDoor
