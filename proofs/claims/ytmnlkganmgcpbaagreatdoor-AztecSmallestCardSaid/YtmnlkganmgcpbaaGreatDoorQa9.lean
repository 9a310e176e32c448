import Derived.Test.YtmnlkganmgcpbaaGreatDoorQa2
import Derived.Test.YtmnlkganmgcpbaaGreatDoorQa8
import Derived.Laws.IdiomStrings
import Derived.Laws.Tables
namespace Go.Proofs.YtmnlkganmgcpbaaGreatDoor
open Go.RowKit
set_option linter.unusedVariables false
section
variable {P : Program} {ops : Array Oper} {md : Region.Mode} {S : World → Prop}
def afterB : List (Bool × Nat) → Array Bool → Array Bool
  | [], L => L
  | (_, k) :: r, L => afterB r (L.setIfInBounds k true)
def preOB (md : Region.Mode) (ops : Array Oper) : List (Bool × Nat) → Array Bool → Bool
  | [], _ => true
  | (true, k) :: r, L => decide (Region.ready md ops L = [k]) && preOB md ops r (L.setIfInBounds k true)
  | (false, k) :: r, L => (Region.ready md ops L).contains k && Region.free md ops L k && preOB md ops r (L.setIfInBounds k true)
theorem wpAnyW_pre {K K' : Act → World → Prop} (hsel : Region.noSelect ops = true) (n : Nat) : ∀ (l : List (Bool × Nat)) (L : Array Bool) (a : Act) (w : World), S w → preOB md ops l L = true →
    (∀ a w, S w → K' a w → wpAnyW P md ops S K n (afterB l L) a w) → wpHW P ops S K' l a w → wpAnyW P md ops S K (n + l.length) L a w
  | [], L, a, w, hS, _, hk, h => hk a w hS h
  | (true, k) :: r, L, a, w, hS, hB, hk, h => by
    simp only [preOB, Bool.and_eq_true, decide_eq_true_eq] at hB
    exact wpAnyW_alone hB.1 (stW_mono (fun a' w' hS' h' => wpAnyW_pre hsel n r _ a' w' hS' hB.2 hk h') h)
  | (false, k) :: r, L, a, w, hS, hB, hk, h => by
    simp only [preOB, Bool.and_eq_true] at hB
    obtain ⟨o, ho, v, hy, hK⟩ := h
    exact wpAnyW_first ho (Region.noSelect_spec hsel) (n + r.length) L a w hS (Region.free_spec ho hB.1.2) (by simpa using hB.1.1) hy (wpAnyW_pre hsel n r _ _ w hS hB.2 hk hK)
theorem wpHW_of_X' {l : List Oper} {K : Act → World → Prop} : ∀ (ord : List (Bool × Nat)) (L : Array Bool) (a : Act) (w : World), preOB md l.toArray ord L = true → wpHX P l.toArray S K (attachW l ord) a w → wpHW P l.toArray S K ord a w
  | [], _, _, _, _, h => h
  | (true, k) :: r, L, a, w, hB, h => by
    simp only [preOB, Bool.and_eq_true, decide_eq_true_eq] at hB
    have hk : k < l.toArray.size := ready_lt (md := md) (listed := L) (by rw [hB.1]; simp)
    have ho : l[k]? = some l[k] := List.getElem?_eq_getElem (by simpa using hk)
    simp only [attachW, ho] at h
    refine ⟨l[k], by simp, ?_⟩
    rcases h with h | h
    · exact .inl ⟨h.1, givW_mono (fun v w' h2 => ⟨h2.1, wpHW_of_X' r _ _ _ hB.2 h2.2⟩) h.2⟩
    · exact .inr ⟨h.1, h.2.1, wpHW_of_X' r _ _ _ hB.2 h.2.2⟩
  | (false, k) :: r, L, a, w, hB, h => by
    simp only [preOB, Bool.and_eq_true] at hB
    have hk : k < l.toArray.size := ready_lt (md := md) (listed := L) (by simpa using hB.1.1)
    have ho : l[k]? = some l[k] := List.getElem?_eq_getElem (by simpa using hk)
    simp only [attachW, ho] at h
    obtain ⟨v, h1, h2⟩ := h
    exact ⟨l[k], by simp, v, h1, wpHW_of_X' r _ _ _ hB.2 h2⟩
inductive OT where
  | last (l : List (Bool × Nat))
  | br (l : List (Bool × Nat)) (ks : List Nat) (f : Nat → OT)
def treeB (md : Region.Mode) (ops : Array Oper) : OT → Nat → Array Bool → Bool
  | .last l, n, L => decide (n = l.length) && preOB md ops l L && (Region.ready md ops (afterB l L)).isEmpty
  | .br l ks f, n, L => decide (l.length + 1 ≤ n) && preOB md ops l L && decide (Region.ready md ops (afterB l L) = ks) && !ks.isEmpty && ks.all fun k => treeB md ops (f k) (n - l.length - 1) ((afterB l L).setIfInBounds k true)
def wpTree (P : Program) (l : List Oper) (S : World → Prop) (K : Act → World → Prop) : OT → Act → World → Prop
  | .last o => wpHX P l.toArray S K (attachW l o)
  | .br o ks f => wpHX P l.toArray S (fun a w => ∀ k ∈ ks, wpHX P l.toArray S (wpTree P l S K (f k)) (attachW l [(true, k)]) a w) (attachW l o)
theorem wpAnyW_tree {l : List Oper} {K : Act → World → Prop} (hsel : Region.noSelect l.toArray = true) : ∀ (t : OT) (n : Nat) (L : Array Bool) (a : Act) (w : World), S w → treeB md l.toArray t n L = true → wpTree P l S K t a w → wpAnyW P md l.toArray S K n L a w
  | .last o, n, L, a, w, hS, hB, h => by
    simp only [treeB, Bool.and_eq_true, decide_eq_true_eq] at hB
    rw [hB.1.1, ← Nat.zero_add o.length]
    exact wpAnyW_pre (K' := K) hsel 0 o L a w hS hB.1.2 (fun a w _ h => ⟨by simpa using hB.2, h⟩) (wpHW_of_X' o L a w hB.1.2 h)
  | .br o ks f, n, L, a, w, hS, hB, h => by
    simp only [treeB, Bool.and_eq_true, decide_eq_true_eq] at hB
    obtain ⟨⟨⟨⟨h1, h2⟩, h3⟩, h4⟩, h5⟩ := hB
    have e : n = (n - o.length - 1 + 1) + o.length := by omega
    rw [e]
    refine wpAnyW_pre hsel (n - o.length - 1 + 1) o L a w hS h2 (fun a w hS h => ?_) (wpHW_of_X' o L a w h2 h)
    refine ⟨by rw [h3]; intro e0; rw [e0] at h4; simp at h4, fun i hi => ?_⟩
    rw [h3] at hi
    have hk : i < l.toArray.size := ready_lt (md := md) (listed := afterB o L) (by rw [h3]; exact hi)
    have ho : l[i]? = some l[i] := List.getElem?_eq_getElem (by simpa using hk)
    have h6 := h i hi
    simp only [attachW, ho] at h6
    have h7 := List.all_eq_true.1 h5 i hi
    refine ⟨l[i], by simp, ?_⟩
    rcases h6 with h6 | h6
    · exact .inl ⟨h6.1, givW_mono (fun v w' h8 => ⟨h8.1, wpAnyW_tree hsel (f i) _ _ _ _ h8.1 h7 h8.2⟩) h6.2⟩
    · exact .inr ⟨h6.1, h6.2.1, wpAnyW_tree hsel (f i) _ _ _ _ h6.2.1 h7 h6.2.2⟩
theorem wpHX_mono {l : Array Oper} {K K' : Act → World → Prop} (h : ∀ a w, K a w → K' a w) : ∀ (r : List (Bool × Nat × Oper)) (a : Act) (w : World), wpHX P l S K r a w → wpHX P l S K' r a w
  | [], a, w, hh => h _ _ hh
  | (true, _, o) :: r, a, w, hh => by
    rcases hh with h1 | h1
    · exact .inl ⟨h1.1, givW_mono (fun v w' h2 => ⟨h2.1, wpHX_mono h r _ _ h2.2⟩) h1.2⟩
    · exact .inr ⟨h1.1, h1.2.1, wpHX_mono h r _ _ h1.2.2⟩
  | (false, _, o) :: r, a, w, hh => by
    obtain ⟨v, h1, h2⟩ := hh
    exact ⟨v, h1, wpHX_mono h r _ _ h2⟩
theorem wpTree_mono {l : List Oper} {K K' : Act → World → Prop} (h : ∀ a w, K a w → K' a w) : ∀ (t : OT) (a : Act) (w : World), wpTree P l S K t a w → wpTree P l S K' t a w
  | .last o, a, w, hh => wpHX_mono h _ _ _ hh
  | .br o ks f, a, w, hh => wpHX_mono (fun a w h1 k hk => wpHX_mono (fun a w h2 => wpTree_mono h (f k) a w h2) _ _ _ (h1 k hk)) _ _ _ hh
theorem wp_region_T {id : Nat} {Q : Exit → Act → World → Prop} {a : Act} {w : World} {l : List Oper} (t : OT) (hm : P.follows .mixedOrders = true) (hB : (Region.noSelect l.toArray && treeB .any l.toArray t l.toArray.size (Array.replicate l.toArray.size false)) = true)
    (hS : S w.drew) (h : wpTree P l S (fun a' W => wpList P l.toArray Q [] a' W) t a w.drew) : (Code.region id l.toArray true).wp P Q a w := by
  simp only [Bool.and_eq_true] at hB
  refine wp_region_any hm ?_
  exact wpAny_of_W (S := S) _ _ _ _ (wpAnyW_tree (K := Q .normal) hB.1 t _ _ a w.drew hS hB.2 h)
theorem wp_region_TP {id : Nat} {Q : Exit → Act → World → Prop} {a : Act} {w : World} {l : List Oper} (t : OT) (Post : Act → Act → World → Prop) (hm : P.follows .mixedOrders = true) (hB : (Region.noSelect l.toArray && treeB .any l.toArray t l.toArray.size (Array.replicate l.toArray.size false)) = true)
    (hS : S w.drew) (h : wpTree P l S (Post a) t a w.drew) (hk : ∀ a' W, Post a a' W → wpList P l.toArray Q [] a' W) : (Code.region id l.toArray true).wp P Q a w := by
  simp only [Bool.and_eq_true] at hB
  refine wp_region_any hm ?_
  exact wpAny_of_W (S := S) _ _ _ _ (wpAnyW_tree (K := Q .normal) hB.1 t _ _ a w.drew hS hB.2 (wpTree_mono (fun a' W h => hk a' W h) t _ _ h))
end
end Go.Proofs.YtmnlkganmgcpbaaGreatDoor
namespace Go.Proofs.YtmnlkganmgcpbaaGreatDoor
open Go.RowKit Go.WideMaps Go.Maps
set_option linter.unusedVariables false
theorem overlay_size (off : Nat) : ∀ (T : List Value) (s : Nat) (cells : Array Value), ((T.zipIdx s).foldl (fun cs (x : Value × Nat) => cs.setIfInBounds (off + x.2) x.1) cells).size = cells.size
  | [], _, _ => rfl
  | x :: T, s, cells => by
    rw [List.zipIdx_cons, List.foldl_cons, overlay_size off T (s + 1)]
    simp
theorem overlay_get (off : Nat) : ∀ (ts : List Value) (s : Nat) (cells : Array Value) (i : Nat), off + s + ts.length ≤ cells.size →
    ((ts.zipIdx s).foldl (fun cs (x : Value × Nat) => cs.setIfInBounds (off + x.2) x.1) cells)[i]? = if off + s ≤ i ∧ i < off + s + ts.length then ts[i - (off + s)]? else cells[i]?
  | [], s, cells, i, _ => by rw [if_neg (by simp only [List.length_nil]; omega)]; rfl
  | x :: ts, s, cells, i, h => by
    rw [List.zipIdx_cons, List.foldl_cons, overlay_get off ts (s + 1) _ i (by simp only [List.length_cons] at h; simp; omega)]
    simp only [List.length_cons] at h ⊢
    by_cases h1 : i = off + s
    · subst h1
      rw [if_neg (by omega), if_pos (by omega), Nat.sub_self, List.getElem?_cons_zero, Array.getElem?_setIfInBounds_self_of_lt (by omega)]
    · by_cases h2 : off + (s + 1) ≤ i ∧ i < off + (s + 1) + ts.length
      · rw [if_pos h2, if_pos (by omega)]
        rw [show i - (off + s) = (i - (off + (s + 1))) + 1 from by omega, List.getElem?_cons_succ]
      · rw [if_neg h2, if_neg (by omega)]
        rw [Array.getElem?_setIfInBounds_ne (by omega)]
def zSearch : Array Value := (Value.string ByteArray.empty :: zeroTab.toList ++ [Value.slice none 0 0, Value.map none]).toArray
theorem zSearch_fact : (Tryz.prog.info? 175).map (·.zero) = some (some (.agg zSearch)) := by kernel_rfl
theorem zSearch_size : zSearch.size = 483 := by kernel_rfl
theorem searchFields : (Tryz.prog.underlying 175).map (fun d => match d with | .struct fields => fields.toList.mapM (fun f => (Tryz.prog.info? f.type).map fun i => (f.offset, i.size)) | _ => none) = some (some [(0, 1), (1, 480), (481, 1), (482, 1)]) := by kernel_rfl
theorem fold_one (off : Nat) (Z : Array Value) (v : Value) : Array.foldl (fun cs (x : Value × Nat) => cs.setIfInBounds (off + x.2) x.1) Z #[v].zipIdx = Z.setIfInBounds off v := rfl
theorem built_search (p : ByteArray) (s m : Value) (hs : s.cells = #[s]) (hm : m.cells = #[m]) : ∃ R : Array Value, Tryz.prog.built 175 [(0, .string p), (1, .agg theTab), (2, s), (3, m)] = some R ∧ R.size = 483 ∧ R[0]? = some (.string p) ∧ (∀ i v, theTab[i]? = some v → R[1 + i]? = some v) ∧ R[481]? = some s ∧ R[482]? = some m := by
  have hz := zSearch_fact
  have hf := searchFields
  have hzs := zSearch_size
  have hts := theTab_size
  generalize zSearch = Z at *
  generalize theTab = Tb at *
  cases hi : Tryz.prog.info? 175 with
  | none => rw [hi] at hz; cases hz
  | some it =>
    cases hu : Tryz.prog.underlying 175 with
    | none => rw [hu] at hf; cases hf
    | some d =>
      rw [hi] at hz
      rw [hu] at hf
      have hz' : it.zero = some (.agg Z) := Option.some.inj hz
      have hf' := Option.some.inj hf
      cases d <;> (try (simp at hf'; done))
      rename_i fields
      simp only at hf'
      unfold Program.built
      rw [hi, hu]
      simp only [hz', hf']
      have e0 : (Value.string p).cells = #[.string p] := rfl
      have e1 : (Value.agg Tb).cells = Tb := rfl
      have e2 : (Value.agg Z).cells = Z := rfl
      have k1 : (Z.setIfInBounds 0 (.string p)).size = 483 := by simp [hzs]
      have key : ∀ (Y : Array Value), Y.size = 483 → (Tb.zipIdx.foldl (fun cs (x : Value × Nat) => cs.setIfInBounds (1 + x.2) x.1) Y).size = 483 ∧ ∀ i, (Tb.zipIdx.foldl (fun cs (x : Value × Nat) => cs.setIfInBounds (1 + x.2) x.1) Y)[i]? = if 1 ≤ i ∧ i < 481 then Tb[i - 1]? else Y[i]? := by
        intro Y hY
        have hl : Tb.toList.length = 480 := by rw [Array.length_toList]; exact hts
        have ef : Tb.zipIdx.foldl (fun cs (x : Value × Nat) => cs.setIfInBounds (1 + x.2) x.1) Y = (Tb.toList.zipIdx 0).foldl (fun cs (x : Value × Nat) => cs.setIfInBounds (1 + x.2) x.1) Y := by
          rw [← Array.foldl_toList, Array.toList_zipIdx]
        rw [ef]
        refine ⟨by rw [overlay_size]; exact hY, fun i => ?_⟩
        rw [overlay_get 1 Tb.toList 0 Y i (by rw [hl, hY]; omega), hl]
        simp only [Nat.add_zero, Array.getElem?_toList]
      have k2 := key _ k1
      simp only [Instr.fill, List.getElem?_toArray, List.getElem?_cons_zero, List.getElem?_cons_succ, e0, e1, e2, hs, hm, List.size_toArray, List.length_cons, List.length_nil, hts, hzs, ne_eq, not_true_eq_false, decide_false, Bool.false_or]
      rw [fold_one, fold_one, fold_one]
      obtain ⟨Y, hY⟩ : ∃ Y, Y = Array.foldl (fun cs (x : Value × Nat) => cs.setIfInBounds (1 + x.2) x.1) (Z.setIfInBounds 0 (.string p)) Tb.zipIdx := ⟨_, rfl⟩
      rw [← hY] at k2 ⊢
      have k3 : (Y.setIfInBounds 481 s).size = 483 := by simp [k2.1]
      rw [if_neg (by simp), if_neg (by rw [k1]; simp), if_neg (by rw [k2.1]; simp), if_neg (by rw [k3]; simp)]
      refine ⟨_, rfl, by simp [k2.1], ?_, fun i v hv => ?_, ?_, ?_⟩
      · rw [Array.getElem?_setIfInBounds_ne (by omega), Array.getElem?_setIfInBounds_ne (by omega), k2.2, if_neg (by omega)]
        simp [hzs]
      · have hi : i < 480 := by rw [← hts]; exact (Array.getElem?_eq_some_iff.1 hv).1
        rw [Array.getElem?_setIfInBounds_ne (by omega), Array.getElem?_setIfInBounds_ne (by omega), k2.2, if_pos (by omega), Nat.add_sub_cancel_left]
        exact hv
      · rw [Array.getElem?_setIfInBounds_ne (by omega)]
        simp [k2.1]
      · simp [k2.1]
theorem exec_convB {a : Act} {o : Oper} {W : World} {x : Operand} (ho : o.op = .convert 22 9 x) {A : Option Addr} {n c : Nat} {l : List UInt8} (hx : a.eval x = .slice A n c) (h : SR vU 0 W A n c l) :
    (execOp a.eval o).run Tryz.prog W = .ok (.value (.string ⟨l.toArray⟩)) W := by
  have hn := h.hn
  have hrun : (convert 22 9 (.slice A n c)).run Tryz.prog W = .ok (.string ⟨l.toArray⟩) W := by
    rcases Nat.eq_zero_or_pos l.length with h0 | h0
    · have hl : l = [] := List.eq_nil_of_length_eq_zero h0
      subst hl
      rw [hn]
      cases A with
      | none => rw [run_convert_bytes_string W _ _ 5 _ _ _ Tryz.underlying22 Tryz.underlying5 Tryz.underlying9]; rfl
      | some ad => exact run_convert_bytes_back W _ _ 5 ad c [] Tryz.underlying22 Tryz.underlying5 Tryz.underlying9 (fun j hj => by simp at hj)
    · obtain ⟨ad, rfl, _, hc⟩ := h.rd h0
      rw [hn]
      exact run_convert_bytes_back W _ _ 5 ad c l Tryz.underlying22 Tryz.underlying5 Tryz.underlying9 (fun j hj => by rw [hc j hj]; simp [List.getD, hj])
  unfold execOp
  simp only [ho, hx, hrun, Sem.run_bind, Sem.run_pure, Result.andThen_ok]
def MadeC (W : World) (cb n : Nat) : Prop := ∃ cur t, W.heap[cb]? = some (.cells cur t (0, 0)) ∧ ∀ i, i < 5 * (n + 1) → cur[i]? = some (.int .i64 0)
theorem MadeC.below {W W' : World} {cb n : Nat} (h : MadeC W cb n) (hb : Below W.heap.size W W') : MadeC W' cb n := by
  obtain ⟨cur, t, h1, h2⟩ := h
  exact ⟨cur, t, (hb.block _ (lt_of_heap h1)).trans h1, h2⟩
theorem arrInfo : (Tryz.prog.info? 131).map (fun i => (i.zero, i.size, i.bytes)) = some (some (.agg #[.int .i64 0, .int .i64 0, .int .i64 0, .int .i64 0, .int .i64 0]), 5, 40) := by kernel_rfl
theorem exec_makeC {a : Act} {o : Oper} {W : World} {l c : Operand} (ho : o.op = .makeSlice 172 l c) (n : Nat) (hn : n ≤ 4096) (hl : a.eval l = .int .i64 ((n + 1 : Nat) : Int)) (hc : a.eval c = .int .i64 ((n + 1 : Nat) : Int)) :
    ∃ W', (execOp a.eval o).run Tryz.prog W = .ok (.value (.slice (some ⟨W.heap.size, 0, none⟩) (n + 1) (n + 1))) W' ∧ MadeC W' W.heap.size n ∧ Below W.heap.size W W' := by
  obtain ⟨i0, hi, hz0, hz1, hz2⟩ := info_parts arrInfo
  have hr := run_make (P := Tryz.prog) W 172 131 i0 _ Tryz.underlying172 hi hz0 .i64 .i64 ((n + 1 : Nat) : Int) ((n + 1 : Nat) : Int) (by omega) (Int.le_refl _) (by rw [hz2]; omega) (by omega)
  simp only [Int.toNat_natCast] at hr
  rw [hz1] at hr
  have hrun : (execOp a.eval o).run Tryz.prog W = .ok (.value (.slice (some ⟨W.heap.size, 0, none⟩) (n + 1) (n + 1))) (W.alloc (.cells (madeCells #[Value.int .i64 0, .int .i64 0, .int .i64 0, .int .i64 0, .int .i64 0] ((n + 1) * 5)) 131)) := by
    unfold execOp
    simp only [ho, hl, hc, hr, Sem.run_bind, Sem.run_pure, Result.andThen_ok]
    rfl
  refine ⟨_, hrun, ⟨_, _, heap_alloc_new W _, fun i hi => ?_⟩, bwA _ _⟩
  unfold madeCells
  rw [Array.getElem?_map, Array.getElem?_range, if_pos (by omega)]
  have h5 : i % 5 = 0 ∨ i % 5 = 1 ∨ i % 5 = 2 ∨ i % 5 = 3 ∨ i % 5 = 4 := by omega
  show some (#[Value.int .i64 0, .int .i64 0, .int .i64 0, .int .i64 0, .int .i64 0][i % 5]!) = _
  rcases h5 with h | h | h | h | h <;> rw [h] <;> rfl
theorem exec_makeM {a : Act} {o : Oper} {W : World} (ho : o.op = .makeMap 173 none) :
    (execOp a.eval o).run Tryz.prog W = .ok (.value (.map (some W.heap.size))) (W.alloc (.map #[] 0)) ∧ MapIs (W.alloc (.map #[] 0)) W.heap.size 0 (fun _ _ => none) := by
  refine ⟨?_, .map [], Maps.isMap_empty, World.ownsMap_made _ _ _ _, fun a m o _ _ h => by cases h⟩
  unfold execOp
  simp only [ho, Sem.run_bind, Sem.run_pure]
  rfl
theorem exec_buildS {a : Act} {o : Oper} {W : World} {x0 x1 x2 x3 : Operand} (ho : o.op = .build 175 #[(0, x0), (1, x1), (2, x2), (3, x3)]) {p : ByteArray} {A : Option Addr} {n c : Nat} {mb : Option Nat}
    (h0 : a.eval x0 = .string p) (h1 : a.eval x1 = .agg theTab) (h2 : a.eval x2 = .slice A n c) (h3 : a.eval x3 = .map mb) (R : Array Value) (hR : Tryz.prog.built 175 [(0, .string p), (1, .agg theTab), (2, .slice A n c), (3, .map mb)] = some R) :
    (execOp a.eval o).run Tryz.prog W = .ok (.value (.agg R)) W := by
  have hrun := run_build (P := Tryz.prog) W 175 #[(0, .string p), (1, .agg theTab), (2, .slice A n c), (3, .map mb)] R hR
  unfold execOp
  simp only [ho, List.map_toArray, List.map_cons, List.map_nil, h0, h1, h2, h3, hrun, Sem.run_bind, Sem.run_pure, Result.andThen_ok]
theorem exec_boxS {a : Act} {o : Oper} {W : World} {x : Operand} (ho : o.op = .box 175 x) {R : Array Value} (hx : a.eval x = .agg R) :
    (execOp a.eval o).run Tryz.prog W = .ok (.value (.pointer (some ⟨W.heap.size, 0, none⟩))) (W.alloc (.cells R 175)) := by
  unfold execOp
  simp only [ho, hx, Instr.box, newVar, newRow, Value.cells, Sem.run_bind, Sem.run_pure]
  rfl
end Go.Proofs.YtmnlkganmgcpbaaGreatDoor
