import Derived.Test.YtplppbfnlfehnaaDoorAztS
namespace Go.Proofs.YtplppbfnlfehnaaDoor
open Go.RowKit Go.WideMaps Go.Maps
set_option linter.unusedVariables false
/-! the bits: the closure that adds a number -/
def notBits : Obj → Bool
  | .cells _ t _ => !(t == 4) && !(t == 24)
  | _ => true
def KeepO (w w' : World) : Prop := ∀ (k : Nat) (o : Obj), w.heap[k]? = some o → notBits o = true → w'.heap[k]? = some o
theorem KeepO.refl (w : World) : KeepO w w := fun _ _ h _ => h
theorem KeepO.trans {a b c : World} (h : KeepO a b) (h2 : KeepO b c) : KeepO a c := fun k o h3 h4 => h2 k o (h k o h3 h4) h4
theorem KeepO.below {w W : World} (h : Below w.heap.size w W) : KeepO w W := fun k o h1 _ => (h.block k (lt_of_heap h1)).trans h1
theorem RowIs.keep {w w' : World} {g : Nat} {cur : Array Value} {t : TypeId} (h : RowIs w g cur t) (hk : KeepO w w') (ht : notBits (.cells cur t (0, 0)) = true) : RowIs w' g cur t := hk g _ h ht
theorem RowIs.setc {w : World} {g i : Nat} {cur : Array Value} {t : TypeId} (h : RowIs w g cur t) (u : Value) : RowIs (w.setCell ⟨g, i, none⟩ u) g (cur.setIfInBounds i u) t := heap_setCell_same w g i cur t u h
structure BO (n : Nat) (w wr : World) (bb : Nat) (bs : List Bool) : Prop where
  B : Below n w wr
  X : ∃ A c, RowIs wr bb #[.slice A bs.length c] 24 ∧ wr.ownsRow n 4 1 (.slice A bs.length c) bs.length (bs.map vB)
  n1 : n ≤ bb
  n2 : n ≤ wr.heap.size
theorem BO.below {n : Nat} {w wr W : World} {bb : Nat} {bs : List Bool} (h : BO n w wr bb bs) (hW : Below wr.heap.size wr W) : BO n w W bb bs := by
  obtain ⟨A, c, h1, h2⟩ := h.X
  exact ⟨h.B.trans (hW.mono h.n2), ⟨A, c, h1.below hW, ownsRow_below h2 hW⟩, h.n1, Nat.le_trans h.n2 hW.size⟩
theorem own_ne {n : Nat} {w : World} {bb q : Nat} {u : Value} {v : Value} {k : Nat} {xs : List Value} (h1 : RowIs w bb #[u] 24) (h2 : w.ownsRow n 4 1 v k xs) (hq : v.ownBlock = some q) : q ≠ bb := by
  rcases h2.2 with ⟨rfl, _⟩ | ⟨g, cap, cur, rfl, _, hg, _⟩
  · cases hq
  · simp only [Value.ownBlock, Option.some.injEq] at hq
    subst hq
    intro e
    subst e
    unfold RowIs at h1
    rw [h1] at hg
    injection hg with hg
    injection hg with _ e _
    exact absurd e (by decide)
theorem KeepO.grown {n : Nat} {w W : World} {v : Value} {k : Nat} {xs : List Value} (h : w.ownsRow n 4 1 v k xs) (hg : w.grownBy W v.ownBlock) : KeepO w W := by
  intro q o ho hn
  refine (hg.block q (lt_of_heap ho) ?_).trans ho
  intro e
  rcases h.2 with ⟨rfl, _⟩ | ⟨g, cap, cur, rfl, _, hh, _⟩
  · cases e
  · simp only [Value.ownBlock, Option.some.injEq] at e
    subst e
    rw [hh] at ho
    injection ho with ho
    subst ho
    exact absurd hn (by simp [notBits])
theorem KeepO.setc {w : World} {g i : Nat} {cur : Array Value} (h : RowIs w g cur 24) (u : Value) : KeepO w (w.setCell ⟨g, i, none⟩ u) := by
  intro q o ho hn
  refine (Below.heap_setCell _ _ _ _ ?_).trans ho
  intro e
  subst e
  unfold RowIs at h
  rw [h] at ho
  injection ho with ho
  subst ho
  exact absurd hn (by simp [notBits])
set_option maxRecDepth 100000 in
set_option maxHeartbeats 2000000 in
theorem add_any (n : Nat) (w0 w : World) (bb : Nat) (bs : List Bool) (v k : Nat) (h : BO n w0 w bb bs) (hv : v ≤ 1000000000000) (hk : k ≤ 62) (hl : bs.length ≤ 4000000000) :
    Calls Tryd.prog 39 #[.int .i64 (v : Int), .int .i64 (k : Int), .pointer (some ⟨bb, 0, none⟩)] w fun e w' => e = .returned (.tuple #[]) ∧ BO n w0 w' bb (bs ++ lowB v k) ∧ KeepO w w' := by
  obtain ⟨i0, hi, hz0, hz1, hz2⟩ := info_parts boolInfo
  obtain ⟨A, c, hX, hO⟩ := h.X
  have HX := Lib.hid hX
  have HO := Lib.hid hO
  have HB := Lib.hid h.B
  have HN : Hid (n ≤ bb ∧ n ≤ w.heap.size) := ⟨h.n1, h.n2⟩
  have HLB := Lib.hid (lowB_length v k)
  clear h hX hO
  go_enter Tryd.func39, Tryd.ntmps39
  go_wp2_with (first
    | (go_at_call 40; refine (Append0_any v k _ hv hk).mono ?_; rintro e w4 ⟨v4, rfl, hs4, hb4⟩; obtain ⟨A4, n4, c4, rfl, hr4⟩ := hs4.parts; have HB4 := Lib.hid hb4; have HR4 := Lib.hid hr4; have HX4 := Lib.hid (HX.out.below hb4); have HO4 := Lib.hid (ownsRow_below HO.out hb4); have f0 : w4.cell? ⟨bb, 0, none⟩ = some (.slice A bs.length c) := HX4.out.cell 0 _ rfl; clear hs4 hb4 hr4)
    | (at_builtin; refine wpList_append_G (f := vB) (d := false) oneB rfl _ _ _ rfl n 4 i0 _ 1 Tryd.underlying24 hi hz0 hz1 hz2 rfl _ bs.length bs rfl HO4.out A4 n4 c4 (lowB v k) rfl HR4.out.hn HR4.out.rd (by have := HR4.out.hn; have := HLB.out; unfold maxLen; omega) (by have := HR4.out.hn; have := HLB.out; omega) (Nat.le_trans HN.out.2 HB4.out.size) ?_; intro v5 w5 hown hg; obtain ⟨A5, c5, rfl⟩ := ownsRow_shape hown; have HG5 := Lib.hid hg; have HO5 := Lib.hid hown; have HX5 : Hid (RowIs w5 bb #[.slice A bs.length c] 24) := (hg.block bb (lt_of_heap HX4.out) (fun e => own_ne HX4.out HO4.out e.symm rfl)).trans HX4.out; have f1 : w5.cell? ⟨bb, 0, none⟩ = some (.slice A bs.length c) := HX5.out.cell 0 _ rfl; have f2 : w5.frozen? ⟨bb, 0, none⟩ = false := frozen_of_row _ _ _ _ _ HX5.out; clear hown hg))
  refine bodyPost_end (results_none rfl _ _ _) rfl ?_
  have hn4 := HR4.out.hn
  refine ⟨rfl, ⟨?_, ⟨A5, c5, ?_, ?_⟩, HN.out.1, ?_⟩, ?_⟩
  · have hb1 : Below n w0 w4 := HB.out.trans (HB4.out.mono HN.out.2)
    have hb2 : Below n w0 w5 := hb1.grown HG5.out (Nat.le_trans HN.out.2 HB4.out.size) (fun q hq => (HO4.out.lt q hq).1)
    exact hb2.setCell (by exact HN.out.1) _
  · have h9 := HX5.out.setc (i := 0) (.slice A5 (bs.length + n4) c5)
    rw [List.length_append, ← hn4]
    exact h9
  · have h9 := HO5.out
    rw [List.length_append, ← hn4]
    refine ⟨h9.1, ?_⟩
    rcases h9.2 with h2 | ⟨g, cap, cur, h1, h2, h3, h4⟩
    · exact .inl h2
    · refine .inr ⟨g, cap, cur, h1, h2, (Below.heap_setCell _ _ _ _ ?_).trans h3, h4⟩
      exact own_ne HX5.out HO5.out (by rw [h1]; rfl)
  · have e1 : (w5.setCell ⟨bb, 0, none⟩ (.slice A5 (bs.length + n4) c5)).heap.size = w5.heap.size := by simp
    rw [e1]
    exact Nat.le_trans (Nat.le_trans HN.out.2 HB4.out.size) HG5.out.size
  · exact (KeepO.below HB4.out).trans ((KeepO.grown HO4.out HG5.out).trans (KeepO.setc HX5.out _))
end Go.Proofs.YtplppbfnlfehnaaDoor
