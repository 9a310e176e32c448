import Derived.Test.YtplppbfnlfehnaaDoorAztI
import Derived.Maps.Views
import Derived.Maps.OwnSet
import Derived.DeepKeys4
namespace Go.Proofs.YtplppbfnlfehnaaDoor
open Go.RowKit
set_option linter.unusedVariables false
/-! the table's entries -/
def kindF (m n : Nat) : Nat :=
  if 1 ≤ n ∧ n ≤ (texts m).length then 1 else
  match m, n with
  | 0, 0 => 3 | 1, 0 => 3 | 2, 0 => 3 | 4, 0 => 3 | 1, 28 => 3 | 4, 15 => 3
  | 0, 31 => 4 | 1, 31 => 4 | 2, 31 => 4
  | 0, 28 => 2 | 0, 29 => 2 | 0, 30 => 2 | 1, 29 => 2 | 1, 30 => 2 | 2, 28 => 2 | 2, 29 => 2 | 2, 30 => 2 | 3, 31 => 2 | 4, 14 => 2
  | _, _ => 0
def modeF (m n : Nat) : Nat :=
  match m, n with
  | 0, 0 => 3 | 1, 0 => 3 | 2, 0 => 3 | 4, 0 => 3
  | 0, 28 => 1 | 0, 29 => 2 | 0, 30 => 4 | 1, 29 => 2 | 1, 30 => 4 | 2, 28 => 1 | 2, 30 => 3
  | _, _ => 0
def charF (m n : Nat) : ByteArray := if n = 0 then ByteArray.empty else (texts m).getD (n - 1) ByteArray.empty
abbrev ent (m n : Nat) : List Value := [.int .i64 ((kindF m n : Nat) : Int), .int .i64 ((modeF m n : Nat) : Int), .string (charF m n)]
def rowF (m : Nat) : List Value := (List.range 32).flatMap (ent m)
def tabF : List Value := (List.range 5).flatMap rowF
set_option maxRecDepth 100000 in
theorem tab_eq : theTab.toList = tabF := by kernel_rfl
theorem flat_get {α : Type} (L : Nat) (f : Nat → List α) (hf : ∀ i, (f i).length = L) : ∀ (k i j : Nat), i < k → j < L → ((List.range k).flatMap f)[i * L + j]? = (f i)[j]? := by
  intro k
  induction k with
  | zero => intro i j h; omega
  | succ k ih =>
    intro i j hi hj
    have hl : ((List.range k).flatMap f).length = k * L := by
      clear ih hi
      induction k with
      | zero => simp
      | succ k ih => rw [List.range_succ, List.flatMap_append, List.length_append, ih]; simp [hf, Nat.succ_mul]
    rw [List.range_succ, List.flatMap_append]
    by_cases h : i < k
    · rw [List.getElem?_append_left (by rw [hl]; calc i * L + j < i * L + L := by omega
          _ = (i + 1) * L := by rw [Nat.succ_mul]
          _ ≤ k * L := Nat.mul_le_mul_right _ (by omega))]
      exact ih i j h hj
    · obtain rfl : i = k := by omega
      rw [List.getElem?_append_right (by rw [hl]; omega), hl]
      simp
theorem flat_len {α : Type} (L : Nat) (f : Nat → List α) (hf : ∀ i, (f i).length = L) (k : Nat) : ((List.range k).flatMap f).length = k * L := by
  induction k with
  | zero => simp
  | succ k ih => rw [List.range_succ, List.flatMap_append, List.length_append, ih]; simp [hf, Nat.succ_mul]
theorem rowF_len (m : Nat) : (rowF m).length = 96 := flat_len 3 (ent m) (fun _ => rfl) 32
theorem rowF_get (m n j : Nat) (hn : n < 32) (hj : j < 3) : (rowF m)[n * 3 + j]? = (ent m n)[j]? := flat_get 3 (ent m) (fun _ => rfl) 32 n j hn hj
theorem theTab_get (m k : Nat) (hm : m < 5) (hk : k < 96) : theTab[m * 96 + k]? = (rowF m)[k]? := by
  have h := flat_get 96 rowF rowF_len 5 m k hm hk
  rw [← h, ← Array.getElem?_toList, tab_eq]; rfl
theorem theTab_size : theTab.size = 480 := by
  rw [← Array.length_toList, tab_eq]; exact flat_len 96 rowF rowF_len 5
theorem row_ent (m n : Nat) (hn : n < 32) : (rowF m).toArray.extract (n * 3) (n * 3 + 3) = (ent m n).toArray := by
  apply Array.ext'
  rw [Array.toList_extract, List.extract_eq_take_drop]
  apply List.ext_getElem?
  intro j
  rw [List.getElem?_take]
  by_cases hj : j < 3
  · rw [if_pos (by omega), List.getElem?_drop]; exact rowF_get m n j hn hj
  · rw [if_neg (by omega), List.getElem?_eq_none (by show 3 ≤ j; omega)]
/-! options -/
structure Opt where
  num : Nat
  sec : Int
  run : Nat
  long : Bool
  size : Nat
  at_ : Nat
  mode : Nat
deriving DecidableEq
def Opt.vals (o : Opt) : List Value := [.int .i64 (o.num : Int), .int .i64 o.sec, .int .i64 (o.run : Int), .bool o.long, .int .i64 (o.size : Int), .int .i64 (o.at_ : Int), .int .i64 (o.mode : Int)]
def Opt.val (o : Opt) : Value := .agg o.vals.toArray
def Opt.tot (C : Nat → Nat → Nat) (o : Opt) : Nat := o.size + C o.at_ o.mode
/-! the search's state in memory -/
structure SW (w : World) (sb cb cap hb : Nat) (p : ByteArray) (C : Nat → Nat → Nat) : Prop where
  lt : sb < w.heap.size
  c0 : w.cell? ⟨sb, 0, none⟩ = some (.string p)
  ct : ∀ i v, theTab[i]? = some v → w.cell? ⟨sb, 1 + i, none⟩ = some v
  cc : w.cell? ⟨sb, 481, none⟩ = some (.slice (some ⟨cb, 0, none⟩) (p.size + 1) cap)
  cm : w.cell? ⟨sb, 482, none⟩ = some (.map (some hb))
  cl : cb < w.heap.size
  cz : ∀ a m, a ≤ p.size → m < 5 → w.cell? ⟨cb, a * 5 + m, none⟩ = some (.int .i64 ((C a m : Nat) : Int))
  hc : p.size + 1 ≤ cap
  hp : p.size ≤ 4096
  b : ∀ a m, C a m ≤ 1073741824
theorem SW.below {w W : World} {sb cb cap hb : Nat} {p : ByteArray} {C : Nat → Nat → Nat} (h : SW w sb cb cap hb p C) (hW : Below w.heap.size w W) : SW W sb cb cap hb p C :=
  ⟨Nat.lt_of_lt_of_le h.lt hW.size, (hW.cell h.lt).trans h.c0, fun i v hv => (hW.cell h.lt).trans (h.ct i v hv), (hW.cell h.lt).trans h.cc, (hW.cell h.lt).trans h.cm, Nat.lt_of_lt_of_le h.cl hW.size,
    fun a m ha hm => (hW.cell h.cl).trans (h.cz a m ha hm), h.hc, h.hp, h.b⟩
theorem Opt.cells (W : World) (o : Opt) (t : TypeId) (b : Nat) (hb : b = W.heap.size) : CellsAt (W.alloc (.cells o.vals.toArray t)) b o.vals := CellsAt.new W o.vals.toArray t b hb
theorem opt_cells {W : World} {b : Nat} {o : Opt} (h : CellsAt W b o.vals) :
    W.cell? ⟨b, 0, none⟩ = some (.int .i64 (o.num : Int)) ∧ W.cell? ⟨b, 1, none⟩ = some (.int .i64 o.sec) ∧ W.cell? ⟨b, 2, none⟩ = some (.int .i64 (o.run : Int)) ∧ W.cell? ⟨b, 3, none⟩ = some (.bool o.long) ∧
    W.cell? ⟨b, 4, none⟩ = some (.int .i64 (o.size : Int)) ∧ W.cell? ⟨b, 5, none⟩ = some (.int .i64 (o.at_ : Int)) ∧ W.cell? ⟨b, 6, none⟩ = some (.int .i64 (o.mode : Int)) :=
  ⟨h.2 0 (by simp [Opt.vals]), h.2 1 (by simp [Opt.vals]), h.2 2 (by simp [Opt.vals]), h.2 3 (by simp [Opt.vals]), h.2 4 (by simp [Opt.vals]), h.2 5 (by simp [Opt.vals]), h.2 6 (by simp [Opt.vals])⟩
set_option maxRecDepth 100000 in
set_option maxHeartbeats 2000000 in
theorem total_any (o : Opt) (w : World) (sb cb cap hb : Nat) (p : ByteArray) (C : Nat → Nat → Nat) (h : SW w sb cb cap hb p C) (ha : o.at_ ≤ p.size) (hm : o.mode < 5) (hs : o.size ≤ 1073741824) :
    Calls Tryd.prog 55 #[.pointer (some ⟨sb, 0, none⟩), o.val] w fun e w' => e = .returned (.int .i64 ((o.tot C : Nat) : Int)) ∧ Below w.heap.size w w' := by
  have hC := h.b o.at_ o.mode
  have hsz := h.hp
  have hcap := h.hc
  obtain ⟨num, sec, run, long, size, at_, mode⟩ := o
  have HT : Hid (Opt.tot C ⟨num, sec, run, long, size, at_, mode⟩ = size + C at_ mode) := rfl
  have CF : Hid (∀ W, Abv (w.alloc (.cells (Opt.vals ⟨num, sec, run, long, size, at_, mode⟩).toArray 87)) W →
      W.cell? ⟨w.heap.size, 4, none⟩ = some (.int .i64 (size : Int)) ∧ W.cell? ⟨w.heap.size, 5, none⟩ = some (.int .i64 (at_ : Int)) ∧ W.cell? ⟨w.heap.size, 6, none⟩ = some (.int .i64 (mode : Int)) ∧
      W.cell? ⟨sb, 481, none⟩ = some (.slice (some ⟨cb, 0, none⟩) (p.size + 1) cap) ∧ W.cell? ⟨cb, at_ * 5 + mode, none⟩ = some (.int .i64 ((C at_ mode : Nat) : Int))) := by
    show ∀ W, _
    intro W hW'
    have h1 := opt_cells ((CellsAt.new w (Opt.vals ⟨num, sec, run, long, size, at_, mode⟩).toArray 87 w.heap.size rfl).below hW')
    have h2 := (h.below (bwA _ _)).below hW'
    exact ⟨h1.2.2.2.2.1, h1.2.2.2.2.2.1, h1.2.2.2.2.2.2, h2.cc, h2.cz at_ mode ha hm⟩
  have HV : Hid (Opt.val ⟨num, sec, run, long, size, at_, mode⟩ = .agg #[.int .i64 (num : Int), .int .i64 sec, .int .i64 (run : Int), .bool long, .int .i64 (size : Int), .int .i64 (at_ : Int), .int .i64 (mode : Int)]) := rfl
  rw [HV.out, HT.out]
  clear h HT HV
  generalize C at_ mode = c at *
  have ha2 : at_ ≤ 4096 := by simp only at ha; omega
  simp only at hm hs ha
  have ha3 : (at_ : Int) < (p.size : Int) + 1 := by omega
  have hm3 : (mode : Int) < 5 := by omega
  have hw : IntKind.i64.wrap ((size : Int) + (c : Int)) = ((size + c : Nat) : Int) := by rw [wr64 _ (by omega) (by omega)]; omega
  go_enter Tryd.func55, Tryd.ntmps55
  go_wp2
  refine wp_region_W (S := Abv (w.alloc (.cells (Opt.vals ⟨num, sec, run, long, size, at_, mode⟩).toArray 87))) [(false, 0), (false, 1), (false, 2), (false, 3), (false, 4), (false, 5), (false, 6), (false, 7), (false, 8), (false, 9), (false, 10), (false, 11), (false, 12), (false, 13), (false, 14), (false, 15), (false, 16)] (by kernel_rfl) (by kernel_rfl) (bwDrew (Below.refl _ _)) ?_
  simp only [attachW, List.getElem?_cons_zero, List.getElem?_cons_succ]
  repeat
    refine' wpHX_val rfl (fun W hW => ?_) ?_
    rotate_left
    · have hcf := CF.out W hW; go_simp; rfl
    simp only [Act.put, List.setIfInBounds_toArray, List.set_cons_zero, List.set_cons_succ]
  refine wpHX_nil ?_
  go_wp2
  go_ret
  exact ⟨rfl, (bwA w _).trans ((bwDrew (Below.refl _ _)).mono (by simp))⟩
end Go.Proofs.YtplppbfnlfehnaaDoor
