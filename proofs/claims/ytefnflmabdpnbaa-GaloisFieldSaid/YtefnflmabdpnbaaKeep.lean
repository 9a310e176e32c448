import Derived.Test.YtefnflmabdpnbaaWalkM
namespace Go.Proofs.Ytefnflmabdpnbaa
open Go.RowKit
set_option linter.unusedVariables false
/-! cells that a walk keeps in sight from call to call -/
def CellsAt (W : World) (b : Nat) (vs : List Value) : Prop := b < W.heap.size ∧ ∀ i, i < vs.length → W.cell? ⟨b, i, none⟩ = some (vs.getD i undef)
theorem CellsAt.below {W W' : World} {b : Nat} {vs : List Value} (h : CellsAt W b vs) (hb : Below W.heap.size W W') : CellsAt W' b vs :=
  ⟨Nat.lt_of_lt_of_le h.1 hb.size, fun i hi => (hb.cell h.1).trans (h.2 i hi)⟩
theorem CellsAt.alloc {W : World} {b : Nat} {vs : List Value} (h : CellsAt W b vs) (o : Obj) : CellsAt (W.alloc o) b vs :=
  h.below ((Below.refl _ _).alloc (Nat.le_refl _) o)
theorem CellsAt.drew {W : World} {b : Nat} {vs : List Value} (h : CellsAt W b vs) : CellsAt W.drew b vs := h
theorem CellsAt.new (W : World) (xs : Array Value) (t : TypeId) (b : Nat) (hb : b = W.heap.size) : CellsAt (W.alloc (.cells xs t)) b xs.toList := by
  refine ⟨by simp; omega, fun i hi => ?_⟩
  rw [World.cell?_alloc_at _ _ _ _ hb]
  simp at hi
  simp [Array.getElem?_eq_getElem hi]
theorem CellsAt.drewN {W : World} {b : Nat} {vs : List Value} (h : CellsAt W b vs) (n : Nat) : CellsAt (W.drewN n) b vs := h
theorem bwStep {w W w1 : World} (h : Below w.heap.size w W) (hb : Below W.heap.size W w1) : Below w.heap.size w w1 := h.trans (hb.mono h.size)
theorem bwAlloc {w W : World} (h : Below w.heap.size w W) (o : Obj) : Below w.heap.size w (W.alloc o) := h.alloc h.size o
theorem bwDrew {w W : World} (h : Below w.heap.size w W) : Below w.heap.size w W.drew := h.drew
end Go.Proofs.Ytefnflmabdpnbaa
