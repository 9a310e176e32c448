import Derived.WalkKit
import Derived.WalkSpells
import Derived.Lib.Hide
import Derived.Deep.QuietTactic
import Derived.BigQuiet
import Derived.RegionTactic
import Derived.OwnWalk
import Derived.Laws.OwnMore
import Derived.Deep.AppendLies
import Derived.Maps.AppendAt
import Derived.Test.YtplppbfnlfehnaaDoorRows
import Derived.Test.YtplppbfnlfehnaaDoorShelf
namespace Go.Proofs.YtplppbfnlfehnaaDoor
open Go.RowKit
set_option linter.unusedVariables false
/-! cells and slices that a walk keeps in sight -/
theorem wr64 (z : Int) (h1 : -1000000000000 ≤ z) (h2 : z ≤ 1000000000000) : IntKind.i64.wrap z = z := by
  rw [IntKind.wrap_i64]
  omega
abbrev Abv (w : World) : World → Prop := Below w.heap.size w
theorem bwStep {w W w1 : World} (h : Below w.heap.size w W) (hb : Below W.heap.size W w1) : Below w.heap.size w w1 := h.trans (hb.mono h.size)
theorem bwAlloc {w W : World} (h : Below w.heap.size w W) (o : Obj) : Below w.heap.size w (W.alloc o) := h.alloc h.size o
theorem bwDrew {w W : World} (h : Below w.heap.size w W) : Below w.heap.size w W.drew := h.drew
theorem bwA (W : World) (o : Obj) : Below W.heap.size W (W.alloc o) := (Below.refl _ _).alloc (Nat.le_refl _) _
theorem bw1 {w w1 : World} {o : Obj} (hb : Below (w.alloc o).heap.size (w.alloc o) w1) : Below w.heap.size w w1 := ((Below.refl _ _).alloc (Nat.le_refl _) _).trans (hb.mono (by simp))
theorem block_of_add (a : Addr) (n : Nat) : (a.add n).block = a.block := by unfold Addr.add; split <;> rfl
theorem add_of_add (a : Addr) (i j : Nat) : (a.add i).add j = a.add (i + j) := by
  unfold Addr.add
  by_cases hi : i = 0 <;> by_cases hj : j = 0 <;> simp [hi, hj, Nat.add_assoc]
theorem add_plain (b o i : Nat) : (⟨b, o, none⟩ : Addr).add i = ⟨b, o + i, none⟩ := by unfold Addr.add; split <;> simp_all
def CellsAt (W : World) (b : Nat) (vs : List Value) : Prop := b < W.heap.size ∧ ∀ i, i < vs.length → W.cell? ⟨b, i, none⟩ = some (vs.getD i undef)
theorem CellsAt.below {W W' : World} {b : Nat} {vs : List Value} (h : CellsAt W b vs) (hb : Below W.heap.size W W') : CellsAt W' b vs :=
  ⟨Nat.lt_of_lt_of_le h.1 hb.size, fun i hi => (hb.cell h.1).trans (h.2 i hi)⟩
theorem CellsAt.alloc {W : World} {b : Nat} {vs : List Value} (h : CellsAt W b vs) (o : Obj) : CellsAt (W.alloc o) b vs :=
  h.below ((Below.refl _ _).alloc (Nat.le_refl _) o)
theorem CellsAt.drew {W : World} {b : Nat} {vs : List Value} (h : CellsAt W b vs) : CellsAt W.drew b vs := h
theorem CellsAt.new (W : World) (xs : Array Value) (t : TypeId) (b : Nat) (hb : b = W.heap.size) : CellsAt (W.alloc (.cells xs t)) b xs.toList := by
  refine ⟨by simp; omega, fun i hi => ?_⟩
  rw [World.cell?_alloc_at _ _ _ _ hb]
  simp at hi
  simp [Array.getElem?_eq_getElem hi]
theorem CellsAt.other {W : World} {b : Nat} {l : List Value} (h : CellsAt W b l) (p : Addr) (u : Value) (hp : b ≠ p.block) : CellsAt (W.setCell p u) b l := by
  refine ⟨by simpa using h.1, fun j hj => ?_⟩
  rw [World.cell?_setCell_other W _ _ _ (fun e => hp (by rw [e]))]
  exact h.2 j hj
theorem lt_of_heap {w : World} {g : Nat} {o : Obj} (h : w.heap[g]? = some o) : g < w.heap.size := (Array.getElem?_eq_some_iff.1 h).1
/-! slices of values of one cell: f says how an element lies in its cell, d is the element behind the end -/
section
variable {α : Type} (f : α → Value) (d : α)
def RG (w : World) (A : Option Addr) (xs : List α) : Prop :=
  0 < xs.length → ∃ ad, A = some ad ∧ ad.block < w.heap.size ∧ ∀ j, j < xs.length → w.cell? (ad.add j) = some (f (xs.getD j d))
/-- a slice value that reads as a list -/
def SG (w : World) (v : Value) (xs : List α) : Prop := ∃ A c, v = .slice A xs.length c ∧ xs.length ≤ c ∧ c ≤ maxLen ∧ RG f d w A xs
/-- the same with its parts -/
structure SR (w : World) (A : Option Addr) (n c : Nat) (xs : List α) : Prop where
  hn : n = xs.length
  hc : n ≤ c
  hm : c ≤ maxLen
  rd : RG f d w A xs
variable {f d}
theorem RG.below {W W' : World} {A : Option Addr} {xs : List α} (h : RG f d W A xs) (hb : Below W.heap.size W W') : RG f d W' A xs := fun hn => by
  obtain ⟨ad, e, hl, hc⟩ := h hn
  exact ⟨ad, e, Nat.lt_of_lt_of_le hl hb.size, fun j hj => (hb.cell (by rw [block_of_add]; exact hl)).trans (hc j hj)⟩
theorem RG.alloc {W : World} {A : Option Addr} {xs : List α} (h : RG f d W A xs) (o : Obj) : RG f d (W.alloc o) A xs := h.below (bwA _ _)
theorem RG.nil_ (W : World) (A : Option Addr) : RG f d W A [] := fun h => absurd h (by simp)
theorem RG.of_own {W : World} {base : Nat} {e : TypeId} {n : Nat} {A : Option Addr} {c : Nat} {xs : List α} (h : W.ownsRow base e 1 (.slice A n c) n (xs.map f)) : RG f d W A xs := fun hn => by
  have hl : xs.length = n := by have := h.1; simpa using this
  obtain ⟨g, cap, hv, _, hlt⟩ := h.form (by omega)
  have hA : A = some ⟨g, 0, none⟩ := by injection hv
  subst hA
  refine ⟨_, rfl, hlt, fun j hj => h.cells (g := g) rfl j _ ?_⟩
  simp [List.getD, hj]
theorem SG.below {W W' : World} {v : Value} {xs : List α} (h : SG f d W v xs) (hb : Below W.heap.size W W') : SG f d W' v xs := by
  obtain ⟨A, c, rfl, h1, h2, h3⟩ := h
  exact ⟨A, c, rfl, h1, h2, h3.below hb⟩
theorem SG.nil_ (w : World) : SG f d w (.slice none 0 0) [] := ⟨none, 0, rfl, by simp, by simp, RG.nil_ _ _⟩
theorem SG.of_own {W : World} {base : Nat} {e : TypeId} {n : Nat} {v : Value} {xs : List α} (h : W.ownsRow base e 1 v n (xs.map f)) : SG f d W v xs := by
  have hl : xs.length = n := by have := h.1; simpa using this
  rcases h.2 with ⟨rfl, rfl⟩ | ⟨g, cap, cur, rfl, _, _, hnc, hcm, _⟩
  · have : xs = [] := List.eq_nil_of_length_eq_zero hl
    subst this; exact SG.nil_ _
  · refine ⟨_, cap, by rw [hl], by omega, hcm, RG.of_own h⟩
theorem SG.parts {w : World} {v : Value} {xs : List α} (h : SG f d w v xs) : ∃ A n c, v = .slice A n c ∧ SR f d w A n c xs := by
  obtain ⟨A, c, rfl, h1, h2, h3⟩ := h
  exact ⟨A, _, c, rfl, rfl, h1, h2, h3⟩
theorem SR.sg {w : World} {A : Option Addr} {n c : Nat} {xs : List α} (h : SR f d w A n c xs) : SG f d w (.slice A n c) xs := by
  obtain ⟨rfl, h1, h2, h3⟩ := h
  exact ⟨A, c, rfl, h1, h2, h3⟩
theorem SR.below {W W' : World} {A : Option Addr} {n c : Nat} {xs : List α} (h : SR f d W A n c xs) (hb : Below W.heap.size W W') : SR f d W' A n c xs := ⟨h.hn, h.hc, h.hm, h.rd.below hb⟩
theorem RG.one (W : World) (x : α) (t : TypeId) (b : Nat) (hb : b = W.heap.size) : RG f d (W.alloc (.cells #[f x] t)) (some ⟨b, 0, none⟩) [x] := fun _ => by
  refine ⟨_, rfl, by simp; omega, fun j hj => ?_⟩
  obtain rfl : j = 0 := by simp at hj; omega
  have := (CellsAt.new W #[f x] t b hb).2 0 (by simp)
  rw [add_plain]; exact this
/-- a literal's row -/
theorem SR.lit (W : World) (xs : List α) (t : TypeId) (b n : Nat) (hb : b = W.heap.size) (hn : n = xs.length) (hm : n ≤ maxLen) : SR f d (W.alloc (.cells (xs.map f).toArray t)) (some ⟨b, 0, none⟩) n n xs := by
  refine ⟨hn, Nat.le_refl _, hm, fun _ => ⟨_, rfl, by simp; omega, fun j hj => ?_⟩⟩
  have := (CellsAt.new W (xs.map f).toArray t b hb).2 j (by simpa using hj)
  rw [add_plain, Nat.zero_add, this]
  simp [List.getD, hj]
/-! a list that grows by append -/
structure OG (f : α → Value) (e : TypeId) (w wr : World) (v : Value) (l : List α) : Prop where
  B : Abv w wr
  O : wr.ownsRow w.heap.size e 1 v l.length (l.map f)
theorem ownsRow_below {W W' : World} {base : Nat} {e : TypeId} {sz : Nat} {v : Value} {n : Nat} {xs : List Value} (h : W.ownsRow base e sz v n xs) (hb : Below W.heap.size W W') : W'.ownsRow base e sz v n xs := by
  refine ⟨h.1, ?_⟩
  rcases h.2 with h2 | ⟨g, cap, cur, h1, h2, h3, h4⟩
  · exact .inl h2
  · exact .inr ⟨g, cap, cur, h1, h2, (hb.block _ (lt_of_heap h3)).trans h3, h4⟩
theorem ownsRow_alloc' {W : World} {base : Nat} {e : TypeId} {sz : Nat} {v : Value} {n : Nat} {xs : List Value} (h : W.ownsRow base e sz v n xs) (o : Obj) : (W.alloc o).ownsRow base e sz v n xs := ownsRow_below h (bwA _ _)
theorem OG.below {e : TypeId} {w wr W : World} {v : Value} {l : List α} (h : OG f e w wr v l) (hb : Below wr.heap.size wr W) : OG f e w W v l := ⟨bwStep h.B hb, ownsRow_below h.O hb⟩
theorem OG.start (e : TypeId) (w : World) : OG f e w w (.slice none 0 0) [] := ⟨Below.refl _ _, World.ownsRow_nil _ _ _ _⟩
theorem OG.grow {e : TypeId} {w wr W w1 : World} {v v1 : Value} {l ys : List α} (h : OG f e w wr v l) (hW : Below wr.heap.size wr W) (hown : w1.ownsRow w.heap.size e 1 v1 (l.length + ys.length) ((l ++ ys).map f)) (hg : W.grownBy w1 v.ownBlock) : OG f e w w1 v1 (l ++ ys) := by
  refine ⟨(bwStep h.B hW).grown hg (by have := (bwStep h.B hW).size; exact this) (fun k hk => (h.O.lt k hk).1), ?_⟩
  rw [List.length_append]; exact hown
theorem OG.sg {e : TypeId} {w wr : World} {v : Value} {l : List α} (h : OG f e w wr v l) : SG f d wr v l := SG.of_own h.O
end
/-! append of elements that are read, to a row of the call's own -/
section
variable {P : Program} {α : Type} {f : α → Value} {d : α}
theorem append_nothing (w : World) (base : Nat) (t ty e : TypeId) (i : TypeInfo) (ht : P.underlying t = some (.slice e)) (hi : P.info? e = some i)
    (v : Value) (n sz : Nat) (xs : List Value) (hsz : i.size = sz) (hown : w.ownsRow base e sz v n xs) (c : Nat) : (Builtin.append_ #[t, t] ty #[v, .slice none 0 c]).run P w = .ok v w := by
  rcases hown.2 with ⟨rfl, rfl⟩ | ⟨g, cap, cur, rfl, _, _, hnc, _⟩
  · simp [Builtin.append_, run_underlying ht, sizeOf, typeInfo, hi, Builtin.lenOf, Builtin.firstCells]
  · simp [Builtin.append_, run_underlying ht, sizeOf, typeInfo, hi, Builtin.lenOf, Builtin.firstCells, hnc, storeCells]
theorem append_G (hf : ∀ x, (f x).oneCell' = true) (w : World) (base : Nat) (t ty e : TypeId) (i : TypeInfo) (z : Value) (by_ : Nat) (ht : P.underlying t = some (.slice e)) (hi : P.info? e = some i) (hz : i.zero = some z)
    (hsize : i.size = 1) (hby : i.bytes = by_) (hzs : z.cells.size = 1)
    (v : Value) (n : Nat) (xs : List α) (hown : w.ownsRow base e 1 v n (xs.map f))
    (A : Option Addr) (m c : Nat) (ys : List α) (hm : m = ys.length) (hr : RG f d w A ys)
    (h63 : n + m ≤ maxLen) (h47 : (n + m) * by_ ≤ 140737488355328) (hbase : base ≤ w.heap.size) :
    ∃ v' w', (Builtin.append_ #[t, t] ty #[v, .slice A m c]).run P w = .ok v' w' ∧ w'.ownsRow base e 1 v' (n + m) ((xs ++ ys).map f) ∧ w.grownBy w' v.ownBlock := by
  subst hm
  rcases A with _ | ad
  · have h0 : ys.length = 0 := by
      rcases Nat.eq_zero_or_pos ys.length with h1 | h1
      · exact h1
      · obtain ⟨ad, h2, _⟩ := hr (by omega)
        cases h2
    have hy : ys = [] := List.eq_nil_of_length_eq_zero h0
    subst hy
    exact ⟨v, w, append_nothing w base t ty e i ht hi v n 1 _ hsize hown c, by simpa using hown, World.grownBy.refl w _⟩
  · have hcells : ∀ j u, (ys.map f)[j]? = some u → w.cell? (ad.add j) = some u := by
      intro j u hu
      have hj : j < ys.length := by
        rcases Nat.lt_or_ge j ys.length with h | h
        · exact h
        · rw [List.getElem?_eq_none (by simpa using h)] at hu; cases hu
      obtain ⟨ad', h, _, hc⟩ := hr (by omega)
      injection h with h
      subst h
      rw [hc j hj]
      simpa [List.getD, hj] using hu
    obtain ⟨v', w', hrun, h2, h3, _, _⟩ := run_append_own_at (P := P) w base t ty e i z 1 by_ ht hi hz hsize hby hzs (by omega) v n _ hown ad ys.length c (ys.map f) (by simp) hcells
      (fun u hu => by obtain ⟨y, _, rfl⟩ := List.mem_map.1 hu; exact hf y) h63 h47 hbase
    exact ⟨v', w', hrun, by rw [List.map_append]; exact h2, h3⟩
theorem wpList_append_G (hf : ∀ x, (f x).oneCell' = true) {w : World} {ops : Array Oper} {rest : List Oper} {o : Oper} {a : Act} {Q : Exit → Act → World → Prop} (hgd : o.guard = none) (s x : Operand) (t : TypeId)
    (ho : o.op = .call { callee := .builtin .append, args := #[s, x], argTypes := #[t, t] })
    (base : Nat) (e : TypeId) (i : TypeInfo) (z : Value) (by_ : Nat) (ht : P.underlying t = some (.slice e)) (hi : P.info? e = some i) (hz : i.zero = some z)
    (hsize : i.size = 1) (hby : i.bytes = by_) (hzs : z.cells.size = 1)
    (v : Value) (n : Nat) (xs : List α) (hs : a.eval s = v) (hown : w.ownsRow base e 1 v n (xs.map f))
    (A : Option Addr) (m c : Nat) (ys : List α) (hx : a.eval x = .slice A m c) (hm : m = ys.length) (hr : RG f d w A ys)
    (h63 : n + m ≤ maxLen) (h47 : (n + m) * by_ ≤ 140737488355328) (hbase : base ≤ w.heap.size)
    (h : ∀ v' w', w'.ownsRow base e 1 v' (n + m) ((xs ++ ys).map f) → w.grownBy w' v.ownBlock → wpList P ops Q rest (a.put o.dst v') w') :
    wpList P ops Q (o :: rest) a w := by
  refine wpList_plain hgd fun K hK => ?_
  obtain ⟨v', w', hrun, h2, h3⟩ := append_G (P := P) (d := d) hf w base t o.type e i z by_ ht hi hz hsize hby hzs v n xs hown A m c ys hm hr h63 h47 hbase
  unfold Oper.wp execOp
  simp only [ho, resolve, invoke, builtin, Sem.run_bind, Sem.run_pure, Result.andThen_ok, List.map_toArray, List.map_cons, List.map_nil, hs, hx, hrun]
  exact hK _ _ (h v' w' h2 h3)
end
/-! the kinds of this program -/
abbrev vB : Bool → Value := Value.bool
abbrev vI : Int → Value := Value.int .i64
abbrev vU : UInt8 → Value := fun x => Value.int .u8 (x.toNat : Int)
theorem oneB (x : Bool) : (vB x).oneCell' = true := rfl
theorem oneI (x : Int) : (vI x).oneCell' = true := rfl
theorem oneU (x : UInt8) : (vU x).oneCell' = true := rfl
theorem oneS (x : ByteArray) : (Value.string x).oneCell' = true := rfl
theorem boolInfo : (Tryd.prog.info? 4).map (fun i => (i.zero, i.size, i.bytes)) = some (some (.bool false), 1, 1) := by kernel_rfl
theorem intInfo : (Tryd.prog.info? 3).map (fun i => (i.zero, i.size, i.bytes)) = some (some (.int .i64 0), 1, 8) := by kernel_rfl
theorem byteInfo : (Tryd.prog.info? 5).map (fun i => (i.zero, i.size, i.bytes)) = some (some (.int .u8 0), 1, 1) := by kernel_rfl
theorem strInfo : (Tryd.prog.info? 9).map (fun i => (i.zero, i.size, i.bytes)) = some (some (.string ByteArray.empty), 1, 16) := by kernel_rfl
end Go.Proofs.YtplppbfnlfehnaaDoor
