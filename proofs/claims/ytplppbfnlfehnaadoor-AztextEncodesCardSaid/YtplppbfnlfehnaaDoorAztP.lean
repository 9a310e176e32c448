import Derived.Test.YtplppbfnlfehnaaDoorAztO
namespace Go.Proofs.YtplppbfnlfehnaaDoor
open Go.RowKit Go.WideMaps Go.Maps
set_option linter.unusedVariables false
/-! settle -/
def costAt (W : World) (cb at_ m : Nat) : Nat := match W.cell? ⟨cb, at_ * 5 + m, none⟩ with | some (.int _ x) => x.toNat | _ => 0
def sumW (W : World) (cb at_ : Nat) : Nat := costAt W cb at_ 0 + costAt W cb at_ 1 + costAt W cb at_ 2 + costAt W cb at_ 3 + costAt W cb at_ 4
theorem SW.sum {w : World} {sb cb cap hb : Nat} {p : ByteArray} {C : Nat → Nat → Nat} (h : SW w sb cb cap hb p C) (at_ : Nat) (ha : at_ ≤ p.size) : sumW w cb at_ = sumC C at_ := by
  have k : ∀ m, m < 5 → costAt w cb at_ m = C at_ m := fun m hm => by unfold costAt; rw [h.cz at_ m ha hm]; simp
  unfold sumW sumC
  rw [k 0 (by omega), k 1 (by omega), k 2 (by omega), k 3 (by omega), k 4 (by omega)]
def boolOf : Value → Nat
  | .bool true => 1
  | _ => 0
theorem optsInfo : (Tryd.prog.info? 105).map (·.zero) = some (some (.agg #[.slice none 0 0, .slice none 0 0, .slice none 0 0, .slice none 0 0, .slice none 0 0])) := by kernel_rfl
theorem optsSz : (Tryd.prog.info? 105).map (·.size) = some 5 := by kernel_rfl
theorem osliceSz : (Tryd.prog.info? 104).map (·.size) = some 1 := by kernel_rfl
/-- the state of settle -/
structure QS (w wr : World) (n ob base sb cb cap hb : Nat) (p : ByteArray) (C : Nat → Nat → Nat) (vs : List Value) (L : Nat → List Opt) (μ cnt : Nat) (T : Nat → Nat → Option Opt) : Prop where
  B : Below n w wr
  S : SQ wr sb cb cap hb p C
  A : CellsAt wr ob vs
  F : FZ wr ob 5
  V : ∀ i, i < μ → ∃ v, vs[i]? = some v ∧ wr.ownsRow base 87 7 v (L i).length ((L i).flatMap Opt.vals)
  M : MapIs wr hb cnt T
  l5 : vs.length = 5
  n1 : n ≤ sb ∧ n ≤ cb ∧ n ≤ hb
  n2 : sb < ob ∧ cb < ob ∧ hb < ob
  n3 : ob < base
  n4 : base ≤ wr.heap.size
section
variable {w wr W : World} {n ob base sb cb cap hb : Nat} {p : ByteArray} {C : Nat → Nat → Nat} {vs : List Value} {L : Nat → List Opt} {μ cnt : Nat} {T : Nat → Nat → Option Opt}
theorem QS.below (h : QS w wr n ob base sb cb cap hb p C vs L μ cnt T) (hW : Below wr.heap.size wr W) : QS w W n ob base sb cb cap hb p C vs L μ cnt T :=
  ⟨h.B.trans (hW.mono (by have := h.n1; have := h.n2; have := h.n3; have := h.n4; omega)), h.S.below hW, h.A.below hW, h.F.below hW, fun i hi => by obtain ⟨v, h1, h2⟩ := h.V i hi; exact ⟨v, h1, ownsRow_below h2 hW⟩, h.M.below hW, h.l5, h.n1, h.n2, h.n3, Nat.le_trans h.n4 hW.size⟩
theorem ownsRow_setCell {base : Nat} {e : TypeId} {sz : Nat} {v : Value} {k : Nat} {xs : List Value} (h : wr.ownsRow base e sz v k xs) {a : Addr} (ha : a.block < base) (u : Value) : (wr.setCell a u).ownsRow base e sz v k xs := by
  refine ⟨h.1, ?_⟩
  rcases h.2 with h2 | ⟨g, cap, cur, h1, h2, h3, h4⟩
  · exact .inl h2
  · exact .inr ⟨g, cap, cur, h1, h2, (Below.heap_setCell _ _ _ _ (by omega)).trans h3, h4⟩
theorem QS.cost (h : QS w wr n ob base sb cb cap hb p C vs L μ cnt T) (a m x : Nat) (ha : a ≤ p.size) (hm : m < 5) (hx : x ≤ 1073741824) :
    QS w (wr.setCell ⟨cb, a * 5 + m, none⟩ (.int .i64 (x : Int))) n ob base sb cb cap hb p (updC C a m x) vs L μ cnt T := by
  have h1 := h.n1; have h2 := h.n2; have h3 := h.n3
  exact ⟨h.B.setCell (by show n ≤ cb; omega) _, h.S.set a m x ha hm hx, h.A.other _ _ (by show ob ≠ cb; omega), h.F.set _ _, fun i hi => by obtain ⟨v, k1, k2⟩ := h.V i hi; exact ⟨v, k1, ownsRow_setCell k2 (by show cb < base; omega) _⟩, h.M.set (by exact h.S.n3) _, h.l5, h.n1, h.n2, h.n3, by simpa using h.n4⟩
theorem QS.slot (h : QS w wr n ob base sb cb cap hb p C vs L μ cnt T) (v : Value) (hm : μ < 5) (hv : wr.ownsRow base 87 7 v (L μ).length ((L μ).flatMap Opt.vals)) :
    QS w (wr.setCell ⟨ob, μ, none⟩ v) n ob base sb cb cap hb p C (vs.set μ v) L (μ + 1) cnt T := by
  have h1 := h.n1; have h2 := h.n2; have h3 := h.n3
  have hs := h.S.S
  have f1 : ∀ b i, b < ob → (wr.setCell ⟨ob, μ, none⟩ v).cell? ⟨b, i, none⟩ = wr.cell? ⟨b, i, none⟩ := fun b i hb => World.cell?_setCell_other wr _ _ _ (fun e => by injection e with e1; omega)
  refine ⟨h.B.setCell (by show n ≤ ob; omega) _, ⟨⟨by simpa using hs.lt, by rw [f1 _ _ h2.1]; exact hs.c0, fun i u hu => by rw [f1 _ _ h2.1]; exact hs.ct i u hu, by rw [f1 _ _ h2.1]; exact hs.cc, by rw [f1 _ _ h2.1]; exact hs.cm, by simpa using hs.cl, fun a m ha hm => by rw [f1 _ _ h2.2.1]; exact hs.cz a m ha hm, hs.hc, hs.hp, hs.b⟩, h.S.F.set _ _, h.S.n1, h.S.n2, h.S.n3⟩,
    h.A.set μ v (by rw [h.l5]; exact hm), h.F.set _ _, fun i hi => ?_, h.M.set (by show hb ≠ ob; omega) _, by rw [List.length_set]; exact h.l5, h.n1, h.n2, h.n3, by simpa using h.n4⟩
  by_cases e : i = μ
  · subst e
    exact ⟨v, by rw [List.getElem?_set_self (by rw [h.l5]; exact hm)], ownsRow_setCell hv (by show ob < base; omega) _⟩
  · obtain ⟨u, k1, k2⟩ := h.V i (by omega)
    exact ⟨u, by rw [List.getElem?_set_ne (Ne.symm e)]; exact k1, ownsRow_setCell k2 (by show ob < base; omega) _⟩
theorem QS.put (h : QS w wr n ob base sb cb cap hb p C vs L μ cnt T) {T' : Nat → Nat → Option Opt} {cnt' : Nat} (hg : wr.grownBy W (some hb)) (hM : MapIs W hb cnt' T') : QS w W n ob base sb cb cap hb p C vs L μ cnt' T' := by
  have h1 := h.n1; have h2 := h.n2; have h3 := h.n3
  refine ⟨h.B.grown hg (by have := h.n4; omega) (fun k hk => by injection hk with hk; omega), h.S.grown hg h.S.n2 h.S.n3, h.A.grown hg (fun q hq => by injection hq with hq; omega), h.F.grown hg (fun e => by injection e with e; omega), fun i hi => ?_, hM, h.l5, h.n1, h.n2, h.n3, Nat.le_trans h.n4 hg.size⟩
  obtain ⟨v, k1, k2⟩ := h.V i hi
  refine ⟨v, k1, k2.kept hg ?_⟩
  cases hv : v.ownBlock with
  | none => exact .inl rfl
  | some g => right; intro e; injection e with e; have := (k2.lt g hv).1; omega
/-- the row of a mode -/
theorem QS.row (h : QS w wr n ob base sb cb cap hb p C vs L μ cnt T) (i : Nat) (hi : i < μ) : ∃ A c, vs[i]? = some (.slice A (L i).length c) ∧
    ∀ j, j < (L i).length → ∃ g, A = some ⟨g, 0, none⟩ ∧ ∀ W, Below wr.heap.size wr W → ∀ o, (L i)[j]? = some o → ∀ k u, o.vals[k]? = some u → W.cell? ⟨g, j * 7 + k, none⟩ = some u := by
  obtain ⟨v, h1, h2⟩ := h.V i hi
  rcases h2.2 with ⟨rfl, h0⟩ | ⟨g, cap, cur, rfl, hb, hg, hnc, hcm, hsz, ht⟩
  · exact ⟨none, 0, by rw [h0]; exact h1, fun j hj => by omega⟩
  · refine ⟨_, cap, h1, fun j hj => ⟨g, rfl, fun W hW o ho k u hu => ?_⟩⟩
    have hk : k < 7 := by
      rcases Nat.lt_or_ge k 7 with h5 | h5
      · exact h5
      · rw [List.getElem?_eq_none (by show 7 ≤ k; exact h5)] at hu; cases hu
    have h6 := h2.cells (g := g) rfl (j * 7 + k) u (by rw [flat_vals_get _ _ _ _ ho hk]; exact hu)
    rw [add_plain, Nat.zero_add] at h6
    exact (hW.cell (lt_of_heap hg)).trans h6
end
end Go.Proofs.YtplppbfnlfehnaaDoor
